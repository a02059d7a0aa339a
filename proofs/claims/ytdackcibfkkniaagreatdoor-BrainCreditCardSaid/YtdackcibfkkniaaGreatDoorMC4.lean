/- Texts put together. -/
import Derived.Test.YtdackcibfkkniaaGreatDoorMC3
set_option synthInstance.maxSize 9999
set_option synthInstance.maxHeartbeats 400000
set_option maxRecDepth 20000
namespace Go.Proofs.YtdackcibfkkniaaGreatDoor
open Go.RowKit
namespace BN
theorem Quo(r:List Rn)(n:Nat)(v:Nat×Nat):Yd (n:Int) (rnV v) (Gk r)=Gk (Wz r n v):=by
 induction r with
 | nil=>rfl
 | cons y r ih=>
  have h0:Gk (y::r)=((y.1:Int),rnV y.2)::Gk r:=rfl;rw[h0,Yd,Wz]
  by_cases h:n=y.1
  ·rw[if_pos h,if_pos (by simp[h])];rfl
  ·rw[if_neg h,if_neg (by simp;omega),ih];rfl
theorem Qlw{r:List Rn}{n:Nat}{v:Nat×Nat}{y:Rn}(h:y∈Wz r n v):y∈r∨y.2=v:=by
 induction r with
 | nil=>
  rw[Wz,List.mem_singleton]at h;exact .inr (by rw[h])
 | cons x r ih=>
  rw[Wz]at h
  split at h
  ·rcases List.mem_cons.1 h with h|h
   ·exact .inr (by rw[h])
   ·exact .inl (List.mem_cons_of_mem _ h)
  ·rcases List.mem_cons.1 h with h|h
   ·exact .inl (by rw[h];exact List.mem_cons_self ..)
   ·rcases ih h with h|h
    ·exact .inl (List.mem_cons_of_mem _ h)
    ·exact .inr h
abbrev rnX(y:Bj)(r:List Rn)(n:Nat)(v:Nat×Nat):Bj:={y with ran:=some (Wz r n v)}
theorem JOk.rnX{N:Nat}{y:Bj}(h:JOk N y){r:List Rn}(hr:y.ran=some r)(n:Nat){v:Nat×Nat}(hv:v.1≤4294967295∧v.2≤4294967295):JOk N (rnX y r n v):=⟨h.B6,h.Al,h.tier,h.k1,h.kn,h.w,h.cr,h.wk,h.Jy,h.at_,h.drop,h.lod,fun r' hr' z hz=>(by
 cases hr'
 rcases Qlw hz with hz|hz
 ·exact h.ran r hr z hz
 ·rw[hz];exact hv),h.ld,h.svl⟩
def Fh(b:Br)(n:Nat)(x:Nt):Br:=match Qg b.js x.Qm with
 | none=>b
 | some y=>match y.ran with
  | none=>b
  | some r=>if 0<x.W7∧n∈y.at_ then b.set {y with ran:=some (Wz r n (x.W7,x.Un))} else b
theorem Up{b:Br}{n:Nat}{x:Nt}(h:¬(n∈b.stops.getD []∧b.Qo=true∧x.gen=b.gen)):W4 b n x=b:=by
 rw[W4,if_neg];intro h2;simp only[Bool.and_eq_true,decide_eq_true_eq]at h2;exact h ⟨h2.1.1,h2.1.2,h2.2⟩
theorem Dl{b:Br}{n:Nat}{x:Nt}(h1:n∈b.stops.getD [])(h2:b.Qo=true)(h3:x.gen=b.gen):W4 b n x=Qw (Fh b n x) n:=by
 rw[W4,if_pos]
 ·rfl
 ·simp only[Bool.and_eq_true,decide_eq_true_eq];exact⟨⟨h1,h2⟩,h3⟩
theorem Qvc{st:Br}(h:Q7 st)(n:Nat){x:Nt}(hx:x.W7≤4294967295∧x.Un≤4294967295):Q7 (Fh st n x):=by
 unfold Fh
 split
 ·exact h
 ·rename_i y hy;have hy2:Qg st.js y.id=some y:=by rw[(Qd hy).2];exact hy
  split
  ·exact h
  ·rename_i r hr
   split
   ·exact h.set (x:=BN.rnX y r n (x.W7,x.Un)) ((h.at_ hy2).rnX hr n hx)
   ·exact h
theorem Qdy(st:Br)(n:Nat)(x:Nt):(Fh st n x).Qa=st.Qa:=by
 unfold Fh
 split
 ·rfl
 ·split
  ·rfl
  ·split <;> rfl
set_option maxHeartbeats 1000000 in
theorem Q25(b:Nat)(st:Br)(ps:Nat→Nat)(n:Nat)(z:Nt)(v:SV)(hz:z.W7≤4294967295∧z.Un≤4294967295)(hl:st.Qa.length≤880000):Spec Tryz.prog 66 [pt b,.int .i64 (n:Int),.agg (ntC z v).toArray] [BP b st ps] fun Γ _ Θ=>Θ=BP b (W4 st n z) ps::Γ:=by
 refine Spec.Us fun hok=>?_;refine Spec.U8 Tryz.func66 rfl Tryz.ntmps66 rfl ?_;intro w0 Γ;show S _ w0 [(0,pt b),(1,.int .i64 (n:Int)),(2,.agg (ntC z v).toArray)] (BP b st ps::Γ) _;cases P0:Qg st.js z.Qm with
 | none=>
  have hnr:Fh st n z=st:=by rw[Fh,P0]
  refine S.Xx b st ps fun ub jb mb ov iv dv mv sb l hF=>?_;refine ZS (ZY 2 (Zp (S.box (cs:=[_,_,_,_,_,_,_,_,_,_,_,_,_]) rfl rfl rfl ?_)));intro b5;refine ZY 3 ?_;refine Zd ([blk b5 72 (ntC z v).toArray,blk b 84 (bC st ub jb mb ov iv dv mv sb).toArray]) [] (Zra 0 5) (ZY 5 ?_);refine Z1 (i:=5) ef ef ?_;refine  (Zcp Ze (Qgn sb st.stops n) ?_);refine Zk [6,7] (ZY 2 ?_)
  refine Zbb 14 ef (fun hg1_7=>?_) (fun hg1_7=>?_)
  ·have hg:=Up (b:=st) (n:=n) (x:=z) (fun h=>by rw[decide_eq_true h.1]at hg1_7;cases hg1_7);refine Zr (Zra 8 15) (ZY 8 (ZY 7 ?_));refine ZD (ZY 2 (S.Q6 b st ps ub jb mb ov iv dv mv sb l hF ?_));exact Zf ef Zq (by rw[hg])
  ·refine Zr (Zra 8 7) (ZY 7 ?_)
   refine Zbb 21 ef (fun hg1_14=>?_) (fun hg1_14=>?_)
   ·have hg:=Up (b:=st) (n:=n) (x:=z) (fun h=>by rw[h.2.1]at hg1_14;cases hg1_14);refine Zr (Zra 15 8) (ZY 8 ?_);refine ZD (ZY 2 (S.Q6 b st ps ub jb mb ov iv dv mv sb l hF ?_));exact Zf ef Zq (by rw[hg])
   ·refine Zr (Zra 15 8) (ZY 8 ?_);refine ZD ?_
    refine Zj ef (fun h1=>?_) (fun h1=>?_)
    ·have hg:=Up (b:=st) (n:=n) (x:=z) (fun h=>h1 (by rw[h.2.2]));refine Zy (S.Q6 b st ps ub jb mb ov iv dv mv sb l hF ?_);exact Zf ef Zq (by rw[hg])
    ·have hg:=Dl (b:=st) (n:=n) (x:=z) (by simpa using hg1_7) (by simpa using hg1_14) (by omega);refine ZY 3 ?_;refine Zd0 (Zra 0 8) (ZY 6 ?_);refine Zw ef (Qj (.pointer none) Tryz.underlying82 Tryz.underlying31 Tryz.Ud.h rfl rfl rfl (by rw[Wn hok.Yz hF.perm,P0];rfl)) (Zy ?_);refine ZD (ZY 8 (ZY 8 (ZY 8 (ZY 6 (S.Q6 b st ps ub jb mb ov iv dv mv sb l hF (Zp (Zc1 Ze (K9 b st ps n hl) ?_)))))));rintro v Θ rfl;refine Zy ?_;exact Zfn ef Zq (by rw[hg,hnr])
 | some y=>
 obtain⟨_,hyi⟩:=Qd P0;have hgy:Qg st.js y.id=some y:=by rw[hyi];exact P0
 have hjy:=hok.at_ hgy;refine S.Wv b st ps y hgy fun ub jb mb ov iv dv mv sb l i av lb db rb qb hF hi Q5 Ld hJ=>?_;have J0:Q1 (z.Qm:Int) l=some (pt (ps y.id)):=by rw[Wn hok.Yz hF.perm,P0];rfl
 cases hr:y.ran with
 | none=>
  have hnr:Fh st n z=st:=by rw[Fh,P0];dsimp only;rw[hr]
  have hrb:rb=none:=by have:=hJ.r;rw[hr]at this;cases rb with|none=>rfl|some q=>cases this
  subst hrb;refine ZS (ZY 2 (Zp (S.box (cs:=[_,_,_,_,_,_,_,_,_,_,_,_,_]) rfl rfl rfl ?_)));intro b5;refine ZY 3 ?_;refine Zd ([blk b5 72 (ntC z v).toArray,blk b 84 (bC st ub jb mb ov iv dv mv sb).toArray]) [] (Zra 0 5) (ZY 5 ?_);refine Z1 (i:=5) ef ef ?_;refine  (Zcp Ze (Qgn sb st.stops n) ?_);refine Zk [6,7] (ZY 2 ?_)
  refine Zbb 14 ef (fun hg1_7=>?_) (fun hg1_7=>?_)
  ·have hg:=Up (b:=st) (n:=n) (x:=z) (fun h=>by rw[decide_eq_true h.1]at hg1_7;cases hg1_7);refine Zr (Zra 8 15) (ZY 8 (ZY 7 ?_));refine ZD (ZY 2 (S.Qn b st ps ub jb mb ov iv dv mv sb l i y av lb db none qb hi rfl (Q5 y rfl) (hF.set hjy) hJ ?_));rw[Qq hok hgy];exact Zf ef Zq (by rw[hg])
  ·refine Zr (Zra 8 7) (ZY 7 ?_)
   refine Zbb 21 ef (fun hg1_14=>?_) (fun hg1_14=>?_)
   ·have hg:=Up (b:=st) (n:=n) (x:=z) (fun h=>by rw[h.2.1]at hg1_14;cases hg1_14);refine Zr (Zra 15 8) (ZY 8 ?_);refine ZD (ZY 2 (S.Qn b st ps ub jb mb ov iv dv mv sb l i y av lb db none qb hi rfl (Q5 y rfl) (hF.set hjy) hJ ?_));rw[Qq hok hgy];exact Zf ef Zq (by rw[hg])
   ·refine Zr (Zra 15 8) (ZY 8 ?_);refine ZD ?_
    refine Zj ef (fun h1=>?_) (fun h1=>?_)
    ·have hg:=Up (b:=st) (n:=n) (x:=z) (fun h=>h1 (by rw[h.2.2]));refine Zy (S.Qn b st ps ub jb mb ov iv dv mv sb l i y av lb db none qb hi rfl (Q5 y rfl) (hF.set hjy) hJ ?_);rw[Qq hok hgy];exact Zf ef Zq (by rw[hg])
    ·have hg:=Dl (b:=st) (n:=n) (x:=z) (by simpa using hg1_7) (by simpa using hg1_14) (by omega);refine ZY 3 ?_;refine Zd0 (Zra 0 8) (ZY 6 ?_);refine Zw ef (Qj (pt (ps y.id)) Tryz.underlying82 Tryz.underlying31 Tryz.Ud.h rfl rfl rfl (by rw[J0];rfl)) (Zy ?_);refine ZD (ZY 8 (Zy (Zvg ef ef ef (J7 Tryz.underlying88 rfl rfl) (ZY 8 (ZY 8 (ZY 4 (S.Qn b st ps ub jb mb ov iv dv mv sb l i y av lb db none qb hi rfl (Q5 y rfl) (hF.set hjy) hJ ?_)))))));rw[Qq hok hgy];refine Zp (Zc1 Ze (K9 b st ps n hl) ?_);rintro v Θ rfl;refine Zy ?_;exact Zfn ef Zq (by rw[hg,hnr])
 | some r=>
  obtain⟨q,hq⟩:∃q,rb=some q:=by have:=hJ.r;rw[hr]at this;cases rb with|none=>cases this|some q=>exact⟨q,rfl⟩
  subst hq;have hnr:Fh st n z=if 0<z.W7∧n∈y.at_ then st.set (rnX y r n (z.W7,z.Un)) else st:=by rw[Fh,P0];dsimp only;rw[hr]
  have Vb:=Qdy st n z;obtain⟨y1,Ru⟩:∃y1:Bj,y1=rnX y r n (z.W7,z.Un):=⟨_,rfl⟩;have Dy:JOk st.nodes y1:=by rw[Ru];exact hjy.rnX hr n hz
  have hid:y1.id=y.id:=by rw[Ru]
  have hrr:y1.ran=some (Wz r n (z.W7,z.Un)):=by rw[Ru]
  obtain⟨t,ht⟩:∃t:Br,t=Fh st n z:=⟨_,rfl⟩;have hto:t.Qa.length≤880000:=by rw[ht,Vb];exact hl
  refine ZS (ZY 2 (Zp (S.box (cs:=[_,_,_,_,_,_,_,_,_,_,_,_,_]) rfl rfl rfl ?_)));intro b5;refine ZY 3 ?_;refine Zd ([blk b5 72 (ntC z v).toArray,blk b 84 (bC st ub jb mb ov iv dv mv sb).toArray]) [] (Zra 0 5) (ZY 5 ?_);refine Z1 (i:=5) ef ef ?_;refine  (Zcp Ze (Qgn sb st.stops n) ?_);refine Zk [6,7] (ZY 2 ?_)
  refine Zbb 14 ef (fun hg1_7=>?_) (fun hg1_7=>?_)
  ·have hg:=Up (b:=st) (n:=n) (x:=z) (fun h=>by rw[decide_eq_true h.1]at hg1_7;cases hg1_7);refine Zr (Zra 8 15) (ZY 8 (ZY 7 ?_));refine ZD (ZY 2 (S.Qn b st ps ub jb mb ov iv dv mv sb l i y av lb db (some q) qb hi rfl (Q5 y rfl) (hF.set hjy) hJ ?_));rw[Qq hok hgy];exact Zf ef Zq (by rw[hg])
  ·refine Zr (Zra 8 7) (ZY 7 ?_)
   refine Zbb 21 ef (fun hg1_14=>?_) (fun hg1_14=>?_)
   ·have hg:=Up (b:=st) (n:=n) (x:=z) (fun h=>by rw[h.2.1]at hg1_14;cases hg1_14);refine Zr (Zra 15 8) (ZY 8 ?_);refine ZD (ZY 2 (S.Qn b st ps ub jb mb ov iv dv mv sb l i y av lb db (some q) qb hi rfl (Q5 y rfl) (hF.set hjy) hJ ?_));rw[Qq hok hgy];exact Zf ef Zq (by rw[hg])
   ·refine Zr (Zra 15 8) (ZY 8 ?_);refine ZD ?_
    refine Zj ef (fun h1=>?_) (fun h1=>?_)
    ·have hg:=Up (b:=st) (n:=n) (x:=z) (fun h=>h1 (by rw[h.2.2]));refine Zy (S.Qn b st ps ub jb mb ov iv dv mv sb l i y av lb db (some q) qb hi rfl (Q5 y rfl) (hF.set hjy) hJ ?_);rw[Qq hok hgy];exact Zf ef Zq (by rw[hg])
    ·have hg:=Dl (b:=st) (n:=n) (x:=z) (by simpa using hg1_7) (by simpa using hg1_14) (by omega);refine ZY 3 ?_;refine Zd0 (Zra 0 8) (ZY 6 ?_);refine Zw ef (Qj (pt (ps y.id)) Tryz.underlying82 Tryz.underlying31 Tryz.Ud.h rfl rfl rfl (by rw[J0];rfl)) (Zy ?_);refine ZD (ZY 8 (Zy (Zvg ef ef ef (J7 Tryz.underlying88 rfl rfl) (ZY 7 ?_))))
     refine Zb 51 ef (fun hg3_14=>?_) (fun hg3_14=>?_)
     ·refine ZY 5 (Zg ef ef ef (Zcp Ze (Mr (own av 3 1 (nds y.at_)) av y.at_ n hJ.an RdS.own) (ZY 2 ?_)))
      refine Zj ef (fun h2=>?_) (fun h2=>?_)
      ·have hts:t=st.set y1:=by rw[ht,hnr,if_pos ⟨by omega,h2⟩,Ru]
       refine S.conv (Dd (some q) y.ran) (Ent.Q4l hr _) ?_;refine Zd ([blk b5 72 (ntC z v).toArray,blk (ps y.id) 90 (bjC y av lb db (some q) qb).toArray]) [10] (Zra 0 10) (ZY 8 (Zy ?_));refine Zw ef (Quw (pvs:=[(_,_),(_,_)]) [_,_] Tryz.z175.h Tryz.Qj4.h ⟨⟨rfl,rfl⟩,⟨rfl,rfl⟩,trivial⟩ rfl) ?_;refine Z1 (i:=10) ef ef ?_;refine(S.mapUpdate Tryz.underlying88 Tryz.underlying3 rfl rfl rfl rfl ?_);rw[Quo r n (z.W7,z.Un)];refine S.conv (Qk q .i64 (Gk (Wz r n (z.W7,z.Un)))) (Ent.Zav hrr _) (S.Yw (ps y.id) (bjC y1 av lb db (some q) qb).toArray (by rw[Ru]) ?_);refine S.sub (jX (ps y.id) y1 av lb db (some q) qb (bR b st ps ub jb mb ov iv dv mv sb l i Γ)) (e:=by subst Ru;infer_instance) ?_;refine S.Qn b st ps ub jb mb ov iv dv mv sb l i y1 av lb db (some q) qb hi hid (Q5 y1 hid) (hF.set Dy) ⟨by rw[Ru];exact hJ.an,by rw[Ru];exact hJ.l,by rw[Ru];exact hJ.d,by rw[Ru];rfl,by rw[Ru];exact hJ.s⟩ ?_;refine S.conv (BP b (st.set y1) ps) (show Ent _ (BP b t ps::_) by rw[hts];exact Ent.refl _) ?_;refine ZL ([]) [] ?_;refine ZD (ZY 3 (Zp (Zc1 Ze (K9 b t ps n hto) ?_)));rintro v Θ rfl;rw[ht];refine Zy ?_;exact Zfn ef Zq (by rw[hg])
      ·have hts:t=st:=by rw[ht,hnr,if_neg (fun h=>h2 h.2)]
       refine S.Qn b st ps ub jb mb ov iv dv mv sb l i y av lb db (some q) qb hi rfl (Q5 y rfl) (hF.set hjy) hJ ?_;rw[Qq hok hgy];refine S.conv (BP b st ps) (show Ent _ (BP b t ps::_) by rw[hts];exact Ent.refl _) (ZY 4 (Zp (Zc1 Ze (K9 b t ps n hto) ?_)));rintro v Θ rfl;rw[ht];refine Zy ?_;exact Zfn ef Zq (by rw[hg])
     ·have hts:t=st:=by rw[ht,hnr,if_neg (fun h=>hg3_14 (by omega))]
      refine S.Qn b st ps ub jb mb ov iv dv mv sb l i y av lb db (some q) qb hi rfl (Q5 y rfl) (hF.set hjy) hJ ?_;rw[Qq hok hgy];refine S.conv (BP b st ps) (show Ent _ (BP b t ps::_) by rw[hts];exact Ent.refl _) (ZY 8 (ZY 5 (Zp (Zc1 Ze (K9 b t ps n hto) ?_))));rintro v Θ rfl;rw[ht];refine Zy ?_;exact Zfn ef Zq (by rw[hg])
section
variable {n:Nat}{md:Bool}{w0:WM md}{ρ:Env}{Γ Δ:List Assn}{φ:Act→World→Prop}
theorem S.H2(q hb:Nat)(v:SV)(id:Nat)(s:Sv)[p:Picks [blk q 131 #[.int .u32 (id:Int),.int .u32 (s.ver:Int),.int .i64 (s.Qb:Int),v.v,.map (some hb),.bool s.told],Qk hb .i64 (Xy s.have_),if s.told then (fun _=>True) else blobs v s.bs] Γ Δ](k:S n w0 ρ (Ue (some q) id (some s)::Δ) φ):S n w0 ρ Γ φ:=
 S.Qh (p.Qh.trans ((Ent.pack [_,_,_] Δ).trans (Ent.W9 Δ fun _ s=>⟨hb,v,s⟩))) k
end
theorem Q88(b:Nat)(st:Br)(ps:Nat→Nat):Spec Tryz.prog 16 [pt b] [BP b st ps] fun Γ v Θ=>∃tv:SV,v=tv.v∧tv.n=st.Qa.length∧Θ=own tv 97 14 (st.Qa.flatMap odC)::BP b {st with Qa:=[]} ps::Γ:=by
 refine Spec.Us fun hok=>?_;refine Zbd Tryz.func16 rfl Tryz.ntmps16 fun w0 Γ=>Zsh ?_;refine S.Xx b st ps fun ub jb mb ov iv dv mv sb l hF=>(ZY 8 (ZY 2 (ZF ef (ZY 8 (ZY 8 (ZY 6 ?_))))));refine S.Qh (show Ent _ (own SV.nil 97 14 (([]:List Od).flatMap odC)::_) from Ent.Ye 97 14) (S.sub (bX b {st with Qa:=[]} ps ub jb mb SV.nil iv dv mv sb l (own ov 97 14 (st.Qa.flatMap odC)::Γ)) ?_);refine S.Q6 b {st with Qa:=[]} ps ub jb mb SV.nil iv dv mv sb l ⟨hok.oset [],hF.perm,rfl,hF.im,hF.dn,hF.mn,hF.sn⟩ ?_;exact Zf ef Zq (⟨ov,rfl,hF.on,rfl⟩)
theorem Qft{st:Br}{x:Bj}{s:Sv}{ver:Nat}{ok:Bool}(hg:Qg st.js x.id=some x)(hs:x.Yt=some s)(h:s.told=false∨s.ver≠ver):Qr st x.id ver ok=(6,st):=by
 unfold Qr;rw[hg];show (match x.Yt with|none=>_|some s=>_)=_;rw[hs];exact if_pos h
theorem Qoh{st:Br}{x:Bj}{s:Sv}{ver:Nat}{ok:Bool}(hg:Qg st.js x.id=some x)(hs:x.Yt=some s)(h1:s.told=true)(h2:s.ver=ver):Qr st x.id ver ok=(0,Q0 st {x with Qb:=if ok then s.Qb else x.Qb,Yt:=none}):=by
 unfold Qr;rw[hg];show (match x.Yt with|none=>_|some s=>_)=_;rw[hs];exact if_neg (fun h=>by rcases h with h|h;(rw[h1]at h;cases h);exact h h2)
theorem Qki(b:Nat)(st:Br)(ps:Nat→Nat)(id ver:Nat)(ok:Bool)(hl:st.Qa.length≤900000)(hd:st.done.length≤900000):Spec Tryz.prog 32 [pt b,.int .u32 (id:Int),.int .u32 (ver:Int),.bool ok] [BP b st ps] fun Γ v Θ=>v=.int .i64 (Qr st id ver ok).1∧Θ=BP b (Qr st id ver ok).2 ps::Γ:=by
 refine Spec.Us fun hok=>?_;refine Spec.U8 Tryz.func32 rfl Tryz.ntmps32 rfl ?_;intro w0 Γ;show S _ w0 [(0,pt b),(1,.int .u32 (id:Int)),(2,.int .u32 (ver:Int)),(3,.bool ok)] (BP b st ps::Γ) _;cases Hi:Qg st.js id with
 | none=>
  have hg:Qr st id ver ok=(6,st):=by rw[Qr,Hi]
  refine S.Xx b st ps fun ub jb mb ov iv dv mv sb l hF=>?_;refine ZS (ZY 8 (ZY 7 ?_));refine Zvg ef ef ef (Qj (.pointer none) Tryz.underlying82 Tryz.underlying31 Tryz.Ud.h rfl rfl rfl (by rw[Wn hok.Yz hF.perm,Hi];rfl)) (ZY 3 (ZT ef (ZY 5 (S.Q6 b st ps ub jb mb ov iv dv mv sb l hF ?_))));exact Zf ef Zq (⟨by rw[hg];rfl,by rw[hg]⟩)
 | some x=>
 obtain⟨_,K0⟩:=Qd Hi;subst K0;have P0:=Hi;have Y5:=hok.at_ P0;refine S.Wv b st ps x P0 fun ub jb mb ov iv dv mv sb l i av lb db rb qb hF hi Q5 Ld hJ=>?_;have J0:Q1 (x.id:Int) l=some (pt (ps x.id)):=by rw[Wn hok.Yz hF.perm,P0];rfl
 cases hs:x.Yt with
 | none=>
  have hg:Qr st x.id ver ok=(6,st):=by rw[Qr,P0];dsimp only;rw[hs]
  have hqb:qb=none:=by have:=hJ.s;rw[hs]at this;cases qb with|none=>rfl|some q=>cases this
  subst hqb;refine ZS (ZY 8 (ZY 7 ?_));refine Zvg ef ef ef (Qj (pt (ps x.id)) Tryz.underlying82 Tryz.underlying31 Tryz.Ud.h rfl rfl rfl (by rw[J0];rfl)) (ZY 3 (ZF ef (ZY 8 ?_)));refine Zv (Qj (pt (ps x.id)) Tryz.underlying82 Tryz.underlying31 Tryz.Ud.h rfl rfl rfl (by rw[J0];rfl)) (ZY 8 (ZY 8 (ZY 8 (ZY 8 (ZY 7 (S.Qn b st ps ub jb mb ov iv dv mv sb l i x av lb db rb none hi rfl (Q5 x rfl) (hF.set Y5) hJ ?_))))));rw[Qq hok P0];exact Zf ef Zq (⟨by rw[hg];rfl,by rw[hg]⟩)
 | some s=>
  obtain⟨q,hq⟩:∃q,qb=some q:=by have:=hJ.s;rw[hs]at this;cases qb with|none=>cases this|some q=>exact⟨q,rfl⟩
  subst hq;refine S.conv (Ue (some q) x.id x.Yt) (show Ent _ (Ue (some q) x.id (some s)::_) by rw[hs];exact Ent.refl _) ?_;refine S.Qfe q x.id s fun hb sv=>?_;cases ok with
  | true=>
  obtain⟨x1,Z4⟩:∃x1:Bj,x1={x with Qb:=s.Qb,Yt:=none}:=⟨_,rfl⟩;have Dy:JOk st.nodes x1:=by rw[Z4];exact⟨Y5.B6,Y5.Al,Y5.tier,Y5.k1,Y5.kn,Y5.w,(Y5.svl s hs).2,Y5.wk,Y5.Jy,Y5.at_,Y5.drop,Y5.lod,Y5.ran,Y5.ld,fun s hs=>(by cases hs)⟩
  have hid:x1.id=x.id:=by rw[Z4]
  have hx2:Qg (st.set x1).js x1.id=some x1:=H5 st (by rw[hid];exact P0)
  have Lb:Spec Tryz.prog 39 [pt b,pt (ps x.id)] [BP b (st.set x1) ps] fun Γ _ Θ=>Θ=BP b (Q0 (st.set x1) x1) ps::Γ:=by
   rw[←hid];exact Qb5 b _ ps x1 hx2 hl hd
  refine ZS (ZY 8 (ZY 7 ?_));refine Zvg ef ef ef (Qj (pt (ps x.id)) Tryz.underlying82 Tryz.underlying31 Tryz.Ud.h rfl rfl rfl (by rw[J0];rfl)) (ZY 3 (ZF ef (ZY 8 ?_)));refine Zv (Qj (pt (ps x.id)) Tryz.underlying82 Tryz.underlying31 Tryz.Ud.h rfl rfl rfl (by rw[J0];rfl)) (ZY 8 (ZY 8 (ZY 5 ?_)))
  refine Zbb 42 ef (fun hg4_15=>?_) (fun hg4_15=>?_)
  ·have hg:=Qft (ok:=true) P0 hs (.inl (show s.told=false by simpa using hg4_15)) (ver:=ver);refine ZY 8 (ZY 8 (ZY 2 (S.H2 q hb sv x.id s ?_)));refine S.conv (Ue (some q) x.id (some s)) (show Ent _ (Ue (some q) x.id x.Yt::_) by rw[hs];exact Ent.refl _) (S.Qn b st ps ub jb mb ov iv dv mv sb l i x av lb db rb (some q) hi rfl (Q5 x rfl) (hF.set Y5) hJ ?_);rw[Qq hok P0];exact Zf ef Zq (⟨by rw[hg];rfl,by rw[hg]⟩)
  ·refine ZY 8 (ZY 4 ?_)
   refine Zj ef (fun h2=>?_) (fun h2=>?_)
   ·have hg:=Qft (ok:=true) P0 hs (ver:=ver) (.inr (by omega));refine ZY 5 (S.H2 q hb sv x.id s ?_);refine S.conv (Ue (some q) x.id (some s)) (show Ent _ (Ue (some q) x.id x.Yt::_) by rw[hs];exact Ent.refl _) (S.Qn b st ps ub jb mb ov iv dv mv sb l i x av lb db rb (some q) hi rfl (Q5 x rfl) (hF.set Y5) hJ ?_);rw[Qq hok P0];exact Zf ef Zq (⟨by rw[hg];rfl,by rw[hg]⟩)
   ·have hg:Qr st x.id ver true=(0,Q0 st x1):=by rw[Z4];exact Qoh (ok:=true) P0 hs (by simpa using hg4_15) (by omega)
    refine ZY 6 (ZT ef (ZY 8 (ZY 8 (ZY 8 (ZY 2 ?_)))));refine S.Yw (ps x.id) (bjC x1 av lb db rb none).toArray (by rw[Z4];rfl) (S.Qh (L6 x.id _) ?_);refine S.sub (jX (ps x.id) x1 av lb db rb none (bR b st ps ub jb mb ov iv dv mv sb l i Γ)) (e:=by subst Z4;infer_instance) ?_;refine S.Qn b st ps ub jb mb ov iv dv mv sb l i x1 av lb db rb none hi hid (Q5 x1 hid) (hF.set Dy) ⟨by rw[Z4];exact hJ.an,by rw[Z4];exact hJ.l,by rw[Z4];exact hJ.d,by rw[Z4];exact hJ.r,by rw[Z4];rfl⟩ (Zp (Zc1 Ze (Lb) ?_));rintro v Θ rfl;rw[Me st (x:=x1) (y:=x1) rfl];refine ZY 6 ?_;exact Zf ef Zq (⟨by rw[hg];rfl,by rw[hg]⟩)
  | false=>
  obtain⟨x1,Z4⟩:∃x1:Bj,x1={x with Qb:=x.Qb,Yt:=none}:=⟨_,rfl⟩;have Dy:JOk st.nodes x1:=by rw[Z4];exact⟨Y5.B6,Y5.Al,Y5.tier,Y5.k1,Y5.kn,Y5.w,Y5.cr,Y5.wk,Y5.Jy,Y5.at_,Y5.drop,Y5.lod,Y5.ran,Y5.ld,fun s hs=>(by cases hs)⟩
  have hid:x1.id=x.id:=by rw[Z4]
  have hx2:Qg (st.set x1).js x1.id=some x1:=H5 st (by rw[hid];exact P0)
  have Lb:Spec Tryz.prog 39 [pt b,pt (ps x.id)] [BP b (st.set x1) ps] fun Γ _ Θ=>Θ=BP b (Q0 (st.set x1) x1) ps::Γ:=by
   rw[←hid];exact Qb5 b _ ps x1 hx2 hl hd
  refine ZS (ZY 8 (ZY 7 ?_));refine Zvg ef ef ef (Qj (pt (ps x.id)) Tryz.underlying82 Tryz.underlying31 Tryz.Ud.h rfl rfl rfl (by rw[J0];rfl)) (ZY 3 (ZF ef (ZY 8 ?_)));refine Zv (Qj (pt (ps x.id)) Tryz.underlying82 Tryz.underlying31 Tryz.Ud.h rfl rfl rfl (by rw[J0];rfl)) (ZY 8 (ZY 8 (ZY 5 ?_)))
  refine Zbb 42 ef (fun hg4_15=>?_) (fun hg4_15=>?_)
  ·have hg:=Qft (ok:=false) P0 hs (.inl (show s.told=false by simpa using hg4_15)) (ver:=ver);refine ZY 8 (ZY 8 (ZY 2 (S.H2 q hb sv x.id s ?_)));refine S.conv (Ue (some q) x.id (some s)) (show Ent _ (Ue (some q) x.id x.Yt::_) by rw[hs];exact Ent.refl _) (S.Qn b st ps ub jb mb ov iv dv mv sb l i x av lb db rb (some q) hi rfl (Q5 x rfl) (hF.set Y5) hJ ?_);rw[Qq hok P0];exact Zf ef Zq (⟨by rw[hg];rfl,by rw[hg]⟩)
  ·refine ZY 8 (ZY 4 ?_)
   refine Zj ef (fun h2=>?_) (fun h2=>?_)
   ·have hg:=Qft (ok:=false) P0 hs (ver:=ver) (.inr (by omega));refine ZY 5 (S.H2 q hb sv x.id s ?_);refine S.conv (Ue (some q) x.id (some s)) (show Ent _ (Ue (some q) x.id x.Yt::_) by rw[hs];exact Ent.refl _) (S.Qn b st ps ub jb mb ov iv dv mv sb l i x av lb db rb (some q) hi rfl (Q5 x rfl) (hF.set Y5) hJ ?_);rw[Qq hok P0];exact Zf ef Zq (⟨by rw[hg];rfl,by rw[hg]⟩)
   ·have hg:Qr st x.id ver false=(0,Q0 st x1):=by rw[Z4];exact Qoh (ok:=false) P0 hs (by simpa using hg4_15) (by omega)
    refine ZY 6 (ZF ef (ZY 8 (ZY 4 ?_)));refine S.Yw (ps x.id) (bjC x1 av lb db rb none).toArray (by rw[Z4];rfl) (S.Qh (L6 x.id _) ?_);refine S.sub (jX (ps x.id) x1 av lb db rb none (bR b st ps ub jb mb ov iv dv mv sb l i Γ)) (e:=by subst Z4;infer_instance) ?_;refine S.Qn b st ps ub jb mb ov iv dv mv sb l i x1 av lb db rb none hi hid (Q5 x1 hid) (hF.set Dy) ⟨by rw[Z4];exact hJ.an,by rw[Z4];exact hJ.l,by rw[Z4];exact hJ.d,by rw[Z4];exact hJ.r,by rw[Z4];rfl⟩ (Zp (Zc1 Ze (Lb) ?_));rintro v Θ rfl;rw[Me st (x:=x1) (y:=x1) rfl];refine ZY 6 ?_;exact Zf ef Zq (⟨by rw[hg];rfl,by rw[hg]⟩)
abbrev Qns(st:Br)(n:Nat):Od:=(n,{kind:=6,gen:=st.gen})
theorem Q7.Q5{st:Br}(h:Q7 st)(a:Bool):Q7 {st with Qo:=a}:=⟨h.R,h.N,h.Hu,h.Yz,fun x hx=>h.Qm x hx,h.Ev,h.q1,h.q2,h.g1,h.g2,h.now,h.fin,h.mem,h.Eu⟩
theorem Qtv(b:Nat)(st:Br)(ps:Nat→Nat)(hl:st.Qa.length≤900000):Spec Tryz.prog 41 [pt b] [BP b st ps] fun Γ _ Θ=>Θ=BP b (F2 st) ps::Γ:=by
 refine Spec.Us fun hok=>?_;have hN:=hok.Bz;refine Zbd Tryz.func41 rfl Tryz.ntmps41 fun w0 Γ=>Zsh ?_;refine S.Xx b st ps fun ub jb mb ov iv dv mv sb l hF=>(ZY 8 (ZY 8 (Zy ?_)));refine Zl (fun q ρ' Γ'=>∃(i:Nat) (ns:List Nat) (os:List Od) (ov2:SV),q=st.nodes-i∧i≤st.nodes∧ns=(List.range i).filter (fun n=>decide (n∈st.stops.getD []))∧ns.length≤i∧os=st.Qa++ns.map (Qns st)∧ov2.n=os.length∧ρ'=[(0,pt b),(10,.int .i64 (st.nodes:Int)),(11,.int .i64 (i:Int))]∧Γ'=bX b {st with Qo:=true,Qa:=os} ps ub jb mb ov2 iv dv mv sb l Γ) (m:=_) (⟨0,[],st.Qa,ov,rfl,by omega,rfl,Nat.le_refl 0,by simp,hF.on,rfl,rfl⟩) ?_;rintro q ρ' Γ' ⟨i,ns,os,ov2,hq,hi,Ly,hnl,hos,Wf,rfl,rfl⟩;have hol:os.length≤900016:=by rw[hos,List.length_append,List.length_map];omega
 refine ZY 5 ?_
 refine Zj ef (fun h1=>?_) (fun h1=>?_)
 ·have hil:i<st.nodes:=by omega
  refine ZY 8 (ZY 7 (Zp (Zcp Ze (Qgn sb st.stops i) (Zy ?_))))
  refine Zj ef (fun h2=>?_) (fun h2=>?_)
  ·have Qjf:ns++[i]=(List.range (i+1)).filter (fun n=>decide (n∈st.stops.getD [])):=by rw[List.range_succ,List.filter_append,←Ly];simp[h2]
   have Ei:os++[((i,{kind:=6,gen:=st.gen}):Od)]=st.Qa++(ns++[i]).map (Qns st):=by rw[hos,List.map_append,List.append_assoc];rfl
   refine ZY 7 ?_;refine Zv (Q3 (pvs:=[(_,_),(_,_)]) [_,_,_,_,_,_,_,_,_,_,_,_,_] Tryz.z72.h Tryz.p72.h ⟨⟨rfl,rfl⟩,⟨rfl,rfl⟩,trivial⟩ rfl) (Zp (Zc1 Ze (Fg b {st with Qo:=true,Qa:=os} ub jb mb ov2 iv dv mv sb i {kind:=6,gen:=st.gen} os Wf (by omega)) ?_));rintro v Θ ⟨ov3,D5,rfl⟩;refine ZY 2 (Zv (Za ef ef) (ZY 2 ?_));first|exact ZX (q-1) ⟨i+1,ns++[i],os++[((i,{kind:=6,gen:=st.gen}):Od)],ov3,by omega,by omega,Qjf,by rw[List.length_append,List.length_singleton];omega,Ei,D5,rfl,rfl⟩ (by omega)|exact ZX (q-1) ⟨i+1,ns,os,ov2,by omega,by omega,Qjf,by omega,hos,Wf,rfl,rfl⟩ (by omega)
  ·have Qjf:ns=(List.range (i+1)).filter (fun n=>decide (n∈st.stops.getD [])):=by rw[List.range_succ,List.filter_append,←Ly];simp[h2]
   refine ZY 2 (Zv (Za ef ef) (ZY 2 ?_));first|exact ZX (q-1) ⟨i+1,ns++[i],os++[((i,{kind:=6,gen:=st.gen}):Od)],ov3,by omega,by omega,Qjf,by rw[List.length_append,List.length_singleton];omega,Ei,D5,rfl,rfl⟩ (by omega)|exact ZX (q-1) ⟨i+1,ns,os,ov2,by omega,by omega,Qjf,by omega,hos,Wf,rfl,rfl⟩ (by omega)
 ·have hg:F2 st={st with Qo:=true,Qa:=os}:=by rw[F2,hos,Ly,show i=st.nodes by omega]
  refine Zy ?_;refine S.Q6 b {st with Qo:=true,Qa:=os} ps ub jb mb ov2 iv dv mv sb l ⟨(hok.oset os).Q5 true,hF.perm,Wf,hF.im,hF.dn,hF.mn,hF.sn⟩ ?_;exact Zfn ef Zq (by rw[hg])
theorem Qbn:G0 Qx:=by
 refine⟨fun st x h hx=>?_,fun st x id hid=>?_,fun st x h hx=>?_⟩
 ·unfold Qx
  split
  ·exact Qjv h (h.at_ hx) true
  ·exact h
 ·unfold Qx
  split
  ·exact Qju st true hid
  ·rfl
 ·unfold Qx
  split
  ·have h1:=(Gs st x true).1;have h2:=Qd5 h hx;omega
  ·omega
theorem Qd7{st:Br}{x:Bj}(h:x.Vo=true∧x.Qi=none∧(x.F1≤st.now∨(x.work=x.Qb∧x.Yt.isNone))):Qx st x=Y9 st x true:=if_pos h
theorem N5{st:Br}{x:Bj}(h:¬(x.Vo=true∧x.Qi=none∧(x.F1≤st.now∨(x.work=x.Qb∧x.Yt.isNone)))):Qx st x=st:=if_neg h
theorem Za3{α β:Type}{a:Option α}{c:Option β}(h:a.isSome=c.isSome):a.isNone=c.isNone:=by cases a <;> cases c <;> first|rfl|cases h
set_option maxHeartbeats 1000000 in
theorem Q1y(b:Nat)(st:Br)(ps:Nat→Nat)(hl:st.Qa.length≤880000):Spec Tryz.prog 42 [pt b] [BP b st ps] fun Γ _ Θ=>Θ=BP b (each Qx st st.ids) ps::Γ:=by
 refine Spec.Us fun hok=>?_;have B8:=hok.Ev;refine Zbd Tryz.func42 rfl Tryz.ntmps42 fun w0 Γ=>Zsh (ZY 3 (Zp (Zc1 Ze (Qck b st ps) ?_)));rintro v Θ ⟨jv,rfl,hjv,rfl⟩;refine S.Yf jv fun Pz Gq Si=>?_;have hmx:maxLen≤9223372036854775807:=by unfold maxLen;omega
 refine ZY 4 ?_;refine Zl (fun q ρ' Γ'=>∃(e:Nat) (t:Br),q=st.js.length-e∧e≤st.js.length∧t=each Qx st (st.ids.take e)∧ρ'=[(0,pt b),(5,jv.v),(6,.int .i64 (jv.n:Int)),(7,.int .i64 (e:Int))]∧Γ'=own jv 86 1 (pts ps st.js)::BP b t ps::Γ) (m:=_) (⟨0,st,rfl,by omega,rfl,rfl,rfl⟩) ?_;rintro q ρ' Γ' ⟨e,t,hq,he,ht,rfl,rfl⟩;have hI:=Ep Qbn hok e he;have hIo:=hI.ord;have hto:t.Qa.length≤900000:=by rw[ht];exact Nat.le_trans hIo (by omega)
 refine ZY 5 ?_
 refine Zj ef (fun h1=>?_) (fun h1=>?_)
 ·refine S.Qp jv (by omega) fun sb so Q4 _ _ _=>?_;obtain⟨x,hx⟩:=Yv (show e<st.js.length by omega);have Ub:Qg t.js x.id=some x:=by rw[ht];exact hI.here e x (Nat.le_refl e) hx
  have Xf:each Qx st (st.ids.take (e+1))=Qx t x:=by rw[ht];exact En hI hx
  have Py:Q7 t:=by rw[ht];exact hI.ok
  have Y5:=Py.at_ Ub;refine S.Wv b t ps x Ub fun ub jb mb ov iv dv mv sb l i av lb db rb qb hF hi Q5 Ld hJ=>?_;have D7:db.isNone=x.Qi.isNone:=Za3 hJ.d;have hqn:(qb.map fun b=>(⟨b,0,none⟩:Addr)).isNone=x.Yt.isNone:=Za3 (by rw[Option.isSome_map];exact hJ.s);refine ZY 5 (Zv (Zx (e) ef (Q4) ef (by omega)) ?_);refine Zv (Zo (jv) (e) ef (Q4) (by rw[List.getElem?_map,hx];rfl)) ?_;refine ZY 3 ?_;refine Zd ([blk (ps x.id) 90 (bjC x av lb db rb qb).toArray,blk b 84 (bC t ub jb mb ov iv dv mv sb).toArray]) [] (Zra 0 5) (ZY 5 ?_)
  refine Zbb 15 ef (fun hg3_4=>?_) (fun hg3_4=>?_)
  ·refine Zr (Zra 5 7) (ZY 4 ?_);refine Zwg ef ef ef ef (Ky Tryz.underlying81 rfl rfl) (ZY 2 ?_)
   refine Zbb 22 ef (fun hg3_11=>?_) (fun hg3_11=>?_)
   ·have Fz:x.Qi=none:=by rw[D7]at hg3_11;exact Option.isNone_iff_eq_none.1 hg3_11
    refine Zr (Zra 12 10) (ZY 8 (ZY 2 ?_))
    refine Zb 32 ef (fun hg3_21=>?_) (fun hg3_21=>?_)
    ·have Ma:=Qd7 (st:=t) (x:=x) ⟨hg3_4,Fz,.inl (by omega)⟩;refine Zr (Zra 22 19) (ZY 8 (ZY 8 (ZY 3 ?_)));refine ZD (ZY 4 (S.Qn b t ps ub jb mb ov iv dv mv sb l i x av lb db rb qb hi rfl (Q5 x rfl) (hF.set Y5) hJ ?_));rw[Qq Py Ub];refine Zp (Zc1 Ze (Qcb b t ps x true Ub hto) ?_);rintro v Θ rfl;refine ZY 2 (Zv (Za ef ef) (ZY 2 ?_));first|exact ZX (q-1) ⟨e+1,Y9 t x true,by omega,by omega,by rw[Xf,Ma],rfl,rfl⟩ (by omega)|(refine S.Qn b t ps ub jb mb ov iv dv mv sb l i x av lb db rb qb hi rfl (Q5 x rfl) (hF.set Y5) hJ ?_;rw[Qq Py Ub];exact ZX (q-1) ⟨e+1,t,by omega,by omega,by rw[Xf,Vb],rfl,rfl⟩ (by omega))
    ·refine Zr (Zra 22 11) (ZY 8 (ZY 3 ?_))
     refine Zb 43 ef (fun hg3_32=>?_) (fun hg3_32=>?_)
     ·refine Zr (Zra 33 8) (ZY 8 ?_);refine ZD ?_
      refine Zi ef (fun h2=>?_) (fun h2=>?_)
      ·have Ma:=Qd7 (st:=t) (x:=x) ⟨hg3_4,Fz,.inr ⟨by omega,by rw[←hqn];exact h2⟩⟩;refine ZY 3 (S.Qn b t ps ub jb mb ov iv dv mv sb l i x av lb db rb qb hi rfl (Q5 x rfl) (hF.set Y5) hJ ?_);rw[Qq Py Ub];refine Zp (Zc1 Ze (Qcb b t ps x true Ub hto) ?_);rintro v Θ rfl;refine ZY 2 (Zv (Za ef ef) (ZY 2 ?_));first|exact ZX (q-1) ⟨e+1,Y9 t x true,by omega,by omega,by rw[Xf,Ma],rfl,rfl⟩ (by omega)|(refine S.Qn b t ps ub jb mb ov iv dv mv sb l i x av lb db rb qb hi rfl (Q5 x rfl) (hF.set Y5) hJ ?_;rw[Qq Py Ub];exact ZX (q-1) ⟨e+1,t,by omega,by omega,by rw[Xf,Vb],rfl,rfl⟩ (by omega))
      ·have Vb:=N5 (st:=t) (x:=x) (fun h=>by rcases h.2.2 with h|h;omega;rw[←hqn]at h;rw[h.2]at h2;cases h2);refine ZY 2 (Zv (Za ef ef) (ZY 2 ?_));first|exact ZX (q-1) ⟨e+1,Y9 t x true,by omega,by omega,by rw[Xf,Ma],rfl,rfl⟩ (by omega)|(refine S.Qn b t ps ub jb mb ov iv dv mv sb l i x av lb db rb qb hi rfl (Q5 x rfl) (hF.set Y5) hJ ?_;rw[Qq Py Ub];exact ZX (q-1) ⟨e+1,t,by omega,by omega,by rw[Xf,Vb],rfl,rfl⟩ (by omega))
     ·have Vb:=N5 (st:=t) (x:=x) (fun h=>by rcases h.2.2 with h|h;omega;exact hg3_32 (by rw[h.1]));refine Zr (Zra 33 8) (ZY 8 ?_);refine ZD (ZY 3 (Zv (Za ef ef) (ZY 2 ?_)));first|exact ZX (q-1) ⟨e+1,Y9 t x true,by omega,by omega,by rw[Xf,Ma],rfl,rfl⟩ (by omega)|(refine S.Qn b t ps ub jb mb ov iv dv mv sb l i x av lb db rb qb hi rfl (Q5 x rfl) (hF.set Y5) hJ ?_;rw[Qq Py Ub];exact ZX (q-1) ⟨e+1,t,by omega,by omega,by rw[Xf,Vb],rfl,rfl⟩ (by omega))
   ·have Vb:=N5 (st:=t) (x:=x) (fun h=>by rw[D7,h.2.1]at hg3_11;cases hg3_11);refine Zr (Zra 12 29) (ZY 8 (ZY 8 (ZY 8 (ZY 5 ?_))));refine ZD (ZY 3 (Zv (Za ef ef) (ZY 2 ?_)));first|exact ZX (q-1) ⟨e+1,Y9 t x true,by omega,by omega,by rw[Xf,Ma],rfl,rfl⟩ (by omega)|(refine S.Qn b t ps ub jb mb ov iv dv mv sb l i x av lb db rb qb hi rfl (Q5 x rfl) (hF.set Y5) hJ ?_;rw[Qq Py Ub];exact ZX (q-1) ⟨e+1,t,by omega,by omega,by rw[Xf,Vb],rfl,rfl⟩ (by omega))
  ·have Vb:=N5 (st:=t) (x:=x) (fun h=>by rw[h.1]at hg3_4;cases hg3_4);refine Zr (Zra 5 36) (ZY 8 (ZY 8 (ZY 8 (ZY 8 (ZY 4 ?_)))));refine ZD (ZY 3 (Zv (Za ef ef) (ZY 2 ?_)));first|exact ZX (q-1) ⟨e+1,Y9 t x true,by omega,by omega,by rw[Xf,Ma],rfl,rfl⟩ (by omega)|(refine S.Qn b t ps ub jb mb ov iv dv mv sb l i x av lb db rb qb hi rfl (Q5 x rfl) (hF.set Y5) hJ ?_;rw[Qq Py Ub];exact ZX (q-1) ⟨e+1,t,by omega,by omega,by rw[Xf,Vb],rfl,rfl⟩ (by omega))
 ·have hen:e=st.js.length:=by omega
  refine Zy ?_;exact Zfn ef Zq (by rw[←Er hen,←ht])
theorem Q9l(b:Nat)(st:Br)(ps:Nat→Nat):Spec Tryz.prog 33 [pt b] [BP b st ps] fun Γ v Θ=>∃tv:SV,v=tv.v∧tv.n=st.done.length∧Θ=own tv 31 1 (Q9 st.done)::BP b {st with done:=[]} ps::Γ:=by
 refine Spec.Us fun hok=>?_;refine Zbd Tryz.func33 rfl Tryz.ntmps33 fun w0 Γ=>Zsh ?_;refine S.Xx b st ps fun ub jb mb ov iv dv mv sb l hF=>(ZY 8 (ZY 2 (ZF ef (ZY 8 (ZY 8 (ZY 6 ?_))))));refine S.Qh (show Ent _ (own SV.nil 31 1 (Q9 ([]:List Nat))::_) from Ent.Ye 31 1) (S.sub (bX b {st with done:=[]} ps ub jb mb ov iv SV.nil mv sb l (own dv 31 1 (Q9 st.done)::Γ)) ?_);refine S.Q6 b {st with done:=[]} ps ub jb mb ov iv SV.nil mv sb l ⟨hok.dset [],hF.perm,hF.on,hF.im,rfl,hF.mn,hF.sn⟩ ?_;exact Zf ef Zq (⟨dv,rfl,hF.dn,rfl⟩)
theorem Q9f(b:Nat)(st:Br)(ps:Nat→Nat):Spec Tryz.prog 27 [pt b] [BP b st ps] fun Γ v Θ=>∃tv:SV,v=tv.v∧tv.n=st.js.length∧Θ=own tv 31 1 (Q9 st.ids)::BP b st ps::Γ:=by
 refine Spec.Us fun hok=>?_;have B8:=hok.Ev;refine Zbd Tryz.func27 rfl Tryz.ntmps27 fun w0 Γ=>Zsh ?_;refine S.Xx b st ps fun ub jb mb ov iv dv mv sb l hF=>?_;have hll:l.length≤65535:=by rw[hF.perm.length_eq,List.length_map];omega
 refine ZY 8 (ZY 2 (ZF ef (ZY 7 (Zp (Zc1 Ze (Qzc jb) ?_)))));rintro v Θ ⟨c,rfl,rfl⟩;refine Zp (Zc1 Ze (Qkf c jb l hll) ?_);rintro v Θ ⟨sv,xs,rfl,Km,D3,hxp,rfl⟩
 have Ta:xs=st.js.map fun x=>(x.id:Int):=by
  refine Qfa (D3.trans ?_) hxp ?_
  ·have:=hF.perm.map (·.1);rw[List.map_map]at this;exact this
  ·exact List.pairwise_map.2 (hok.Yz.imp fun h=>by omega)
 have Mu:xs.length=st.js.length:=by rw[Ta,List.length_map]
 have Mc:xs.map kv=Q9 st.ids:=by
  rw[Ta,List.map_map];show _=(st.js.map (fun x=>x.id)).map (fun j:Nat=>Value.int .u32 (j:Int));rw[List.map_map];rfl
 rw[Mc];refine ZY 3 (S.Q6 b st ps ub jb mb ov iv dv mv sb l hF ?_);exact Zf ef Zq (⟨sv,rfl,by omega,rfl⟩)
end BN
theorem S.Qup{n:Nat}{md:Bool}{w0:WM md}{ρ:Env}{Γ:List Assn}{φ:Act→World→Prop}{R:Assn}{s:SV}{m sz:Nat}{xs:List Value}(h:RdS R s m sz xs){Δ:List Assn}[p:Pick R Γ Δ](k:(s.a=none→m=0)→S n w0 ρ Γ φ):S n w0 ρ Γ φ:=by
 intro a w ha hs hx;refine k (fun hn=>Classical.byContradiction fun h0=>?_) a w ha hs hx;obtain⟨b,off,hb,_⟩:=J5 (h.at_ hs) (Nat.pos_of_ne_zero h0);rw[hn]at hb;cases hb
namespace BN
theorem Qyw(R:Assn)(s:SV)(xs:List Int)(Uj:s.n=xs.length)(hR:RdS R s s.n 1 (bcells xs))(Mu:xs.length≤1000000):Spec Tryz.prog 105 [s.v] [R] fun Γ v Θ=>∃u:SV,v=u.v∧u.n=xs.length∧Θ=own u 5 1 (bcells xs)::R::Γ:=by
 refine Zbd Tryz.func105 rfl Tryz.ntmps105 fun w0 Γ=>Zsh ?_;refine S.Nk hR fun _ hc1 hc2=>?_;refine S.Qup hR fun Vb=>(ZY 8 (ZY 2 ?_))
 refine Zi ef (fun h1=>?_) (fun h1=>?_)
 ·obtain rfl:xs=[]:=List.eq_nil_of_length_eq_zero (by have:=Vb (Option.isNone_iff_eq_none.1 h1);omega);refine ZY 5 ?_;refine S.Qh (show Ent _ (own SV.nil 5 1 (bcells [])::_) from Ent.Ye 5 1) ?_;exact Zf ef Zq (⟨SV.nil,rfl,rfl,rfl⟩)
 ·refine ZY 3 (Zp (S.Fk Tryz.underlying22 Tryz.Q16.h rfl ?_));intro b5 hb5;refine Zy ?_;refine Zp (S.Qu (s:=b5) (s.n) (bcells xs) Tryz.underlying22 Tryz.Q16.h rfl rfl rfl (fun w hs=>hR _ w (hs.Qh (Pick.Qh (P:=R)))) (by first|rfl|exact Ql _) (⟨by omega,by omega⟩) rfl ?_);intro u hu;rw[List.nil_append];refine ZY 3 ?_;exact Zf ef Zq (⟨u,rfl,by omega,rfl⟩)
theorem Q2c(l:List Nat):Hf (Q9 l)=true:=List.all_eq_true.2 fun v hv=>by
 obtain⟨x,_,rfl⟩:=List.mem_map.1 hv;rfl
abbrev jbC(x:Bj):List Value:=[.int .u32 (x.id:Int),.int .u8 (x.tier:Int),.int .i64 (x.k:Int),.int .i64 (x.w:Int),.int .u8 (x.state:Int),.int .i64 (x.Qb:Int)]
abbrev jbZ:List Value:=[.int .u32 0,.int .u8 0,.int .i64 0,.int .i64 0,.int .u8 0,.int .i64 0]
def Za0(o:Option Bj):Value:=match o with
 | some x=>.tuple #[.agg (jbC x).toArray,.bool true]
 | none=>.tuple #[.agg jbZ.toArray,.bool false]
theorem Qzd(b:Nat)(st:Br)(ps:Nat→Nat)(id:Nat):Spec Tryz.prog 21 [pt b,.int .u32 (id:Int)] [BP b st ps] fun Γ v Θ=>v=Za0 (Qg st.js id)∧Θ=BP b st ps::Γ:=by
 refine Spec.Us fun hok=>?_;refine Spec.U8 Tryz.func21 rfl Tryz.ntmps21 rfl ?_;intro w0 Γ;show S _ w0 [(0,pt b),(1,.int .u32 (id:Int))] (BP b st ps::Γ) _;cases hg:Qg st.js id with
 | none=>
  refine S.Xx b st ps fun ub jb mb ov iv dv mv sb l hF=>?_;refine ZS (ZY 2 (Zp (S.alloc Tryz.z35.h rfl ?_)));intro b4;refine ZY 8 (ZY 5 ?_);refine Zvg ef ef ef (Qj (.pointer none) Tryz.underlying82 Tryz.underlying31 Tryz.Ud.h rfl rfl rfl (by rw[Wn hok.Yz hF.perm,hg];rfl)) (ZY 3 (ZT ef (ZY 2 ?_)));refine Zv (Q3 (pvs:=[]) [_,_,_,_,_,_] Tryz.z35.h Tryz.p35.h trivial rfl) (Zp (Zs ef ef (cs':=[_,_,_,_,_,_]) ef (ZY 3 (S.Q6 b st ps ub jb mb ov iv dv mv sb l hF ?_))));exact Zf ef Zq (⟨rfl,rfl⟩)
 | some x=>
 obtain⟨_,K0⟩:=Qd hg;subst K0;have Y5:=hok.at_ hg;refine S.Wv b st ps x hg fun ub jb mb ov iv dv mv sb l i av lb db rb qb hF hi Q5 Ld hJ=>?_;have J0:Q1 (x.id:Int) l=some (pt (ps x.id)):=by rw[Wn hok.Yz hF.perm,hg];rfl
 refine ZS (ZY 2 (Zp (S.alloc Tryz.z35.h rfl ?_)));intro b4;refine ZY 8 (ZY 5 ?_);refine Zvg ef ef ef (Qj (pt (ps x.id)) Tryz.underlying82 Tryz.underlying31 Tryz.Ud.h rfl rfl rfl (by rw[J0];rfl)) (ZY 3 (ZF ef (ZY 8 ?_)));refine Zv (Qj (pt (ps x.id)) Tryz.underlying82 Tryz.underlying31 Tryz.Ud.h rfl rfl rfl (by rw[J0];rfl)) (ZY 3 (Zp (Zs ef ef (cs':=[_,_,_,_,_,_]) ef (ZY 3 (S.Qn b st ps ub jb mb ov iv dv mv sb l i x av lb db rb qb hi rfl (Q5 x rfl) (hF.set Y5) hJ ?_)))));rw[Qq hok hg];exact Zf ef Zq (⟨rfl,rfl⟩)
theorem Q0w{l:List Nat}{n i:Nat}(h:l[i]?=some n)(Vb:∀y∈l.take i,y≠n):Uf l n=some i:=by
 unfold Uf;obtain⟨hi,he⟩:=List.getElem?_eq_some_iff.1 h;refine List.findIdx?_eq_some_iff_getElem.2 ⟨hi,decide_eq_true he,fun j hj=>?_⟩;have:l[j]∈l.take i:=List.mem_take_iff_getElem.2 ⟨j,by omega,rfl⟩
 simpa using Vb _ this
abbrev svT(s:Sv)(Qt n:Nat)(blob:List Int):Sv:={s with bs:=s.bs.set Qt blob,have_:=Yj s.have_ n}
theorem L5{st:Br}{x:Bj}{n:Nat}{t:Nt}{blob:List Int}{s:Sv}{Qt:Nat}(hs:x.Yt=some s)(hr:Uf x.at_ n=some Qt)(h:s.told=true∨t.ver≠s.ver∨t.Qt≠Qt):Wy st x n t blob=st:=by
 unfold Wy;rw[hs];dsimp only;rw[hr];exact if_pos h
theorem Qhy{st:Br}{x:Bj}{n:Nat}{t:Nt}{blob:List Int}{s:Sv}{Qt:Nat}(hs:x.Yt=some s)(hr:Uf x.at_ n=some Qt)(h:¬(s.told=true∨t.ver≠s.ver∨t.Qt≠Qt))(hl:¬(Yj s.have_ n).length=x.at_.length):Wy st x n t blob=st.set {x with Yt:=some (svT s Qt n blob)}:=by
 unfold Wy;rw[hs];dsimp only;rw[hr];dsimp only;rw[if_neg h,if_neg hl]
theorem Qhz{st:Br}{x:Bj}{n:Nat}{t:Nt}{blob:List Int}{s:Sv}{Qt:Nat}(hs:x.Yt=some s)(hr:Uf x.at_ n=some Qt)(h:¬(s.told=true∨t.ver≠s.ver∨t.Qt≠Qt))(hl:(Yj s.have_ n).length=x.at_.length):Wy st x n t blob={st with js:=Yo st.js {x with Yt:=some ⟨s.ver,s.Qb,Yj s.have_ n,true,s.bs.set Qt blob⟩},Qe:=st.Qe++[⟨x.id,s.ver,s.Qb,s.bs.set Qt blob⟩]}:=by
 unfold Wy;rw[hs];dsimp only;rw[hr];dsimp only;rw[if_neg h,if_pos hl]
section
variable {n:Nat}{md:Bool}{w0:WM md}{ρ:Env}{Γ Δ:List Assn}{φ:Act→World→Prop}
theorem S.Qer(v:SV)(bs:List (List Int))[q:Pick (blobs v bs) Γ Δ](k:∀os:List Bb,os.map (·.2)=bs→S n w0 ρ (own v 22 1 (os.map bbV)::alls os bbB::Δ) φ):S n w0 ρ Γ φ:=by
 intro a w ha hs hx;obtain⟨h0,l0,h1,h2,d,l1,l2,⟨os,q1,q2⟩,s⟩:=hs.Qh q.Qh;exact k os q1 a w ha ⟨h0,l0,(Ent.unpack [_,_] Δ) _ ⟨h1,h2,d,l1,l2,q2,s⟩⟩ hx
theorem Ent.Qe5(v:SV)(os:List Bb)(Γ:List Assn):Ent (own v 22 1 (os.map bbV)::alls os bbB::Γ) (blobs v (os.map (·.2))::Γ):=
 (Ent.pack [_,_] Γ).trans (Ent.W9 Γ fun _ s=>⟨os,rfl,s⟩)
theorem S.Eh(v:SV)(l:List Im)[q:Pick (imgs v l) Γ Δ](k:∀os:List Ig,os.map (·.2)=l→S n w0 ρ (own v 60 4 (os.flatMap igC)::alls os igB::Δ) φ):S n w0 ρ Γ φ:=by
 intro a w ha hs hx;obtain⟨h0,l0,h1,h2,d,l1,l2,⟨os,q1,q2⟩,s⟩:=hs.Qh q.Qh;exact k os q1 a w ha ⟨h0,l0,(Ent.unpack [_,_] Δ) _ ⟨h1,h2,d,l1,l2,q2,s⟩⟩ hx
theorem Ent.Ts(v:SV)(os:List Ig)(Γ:List Assn):Ent (own v 60 4 (os.flatMap igC)::alls os igB::Γ) (imgs v (os.map (·.2))::Γ):=
 (Ent.pack [_,_] Γ).trans (Ent.W9 Γ fun _ s=>⟨os,rfl,s⟩)
end
theorem Ent.Qgz{α:Type}(F:α→Assn){os:List α}{i:Nat}{x x':α}(hx:os[i]?=some x)(Γ:List Assn):Ent (F x'::alls os F::Γ) (alls (os.set i x') F::Γ):=
 ((Ent.Wp F hx Γ).cons (F x')).trans (((Ent.drop (F x) _).cons (F x')).trans (Ent.Yl F hx Γ))
theorem Q7.iset{st:Br}(h:Q7 st)(l:List Im):Q7 {st with Qe:=l}:=⟨h.R,h.N,h.Hu,h.Yz,fun x hx=>h.Qm x hx,h.Ev,h.q1,h.q2,h.g1,h.g2,h.now,h.fin,h.mem,h.Eu⟩
theorem JOk.sset{N:Nat}{x:Bj}(h:JOk N x){s:Sv}(h1:s.bs.length=x.at_.length)(h2:s.Qb≤x.w):JOk N {x with Yt:=some s}:=⟨h.B6,h.Al,h.tier,h.k1,h.kn,h.w,h.cr,h.wk,h.Jy,h.at_,h.drop,h.lod,h.ran,h.ld,fun s hs=>(by cases hs;exact⟨h1,h2⟩)⟩
theorem Qqr{l:List Nat}{n:Nat}(h:n∈l):∃i,Uf l n=some i∧l[i]?=some n:=by
 cases hr:Uf l n with
 | none=>exact absurd (List.findIdx?_eq_none_iff.1 hr n h) (by simp)
 | some i=>
  obtain⟨hi,h1,_⟩:=List.findIdx?_eq_some_iff_getElem.1 hr;exact⟨i,rfl,by rw[List.getElem?_eq_getElem hi,of_decide_eq_true h1]⟩
theorem Q0i(b:Nat)(st:Br)(ps:Nat→Nat)(x:Bj)(n:Nat)(t:Nt)(R:Assn)(bv:SV)(blob:List Int)(hx:Qg st.js x.id=some x)(hn:n∈x.at_)(hbn:bv.n=blob.length)(hbl:blob.length≤1000000)(hR:RdS R bv bv.n 1 (bcells blob))(hil:st.Qe.length≤900000)(hr8:t.Qt≤255) :
  Spec Tryz.prog 67 [pt b,pt (ps x.id),.int .i64 (n:Int),.agg (ntC t bv).toArray] [BP b st ps,R] fun Γ _ Θ=>Θ=BP b (Wy st x n t blob) ps::R::Γ:=by
 refine Spec.Us fun hok=>?_;have Y5:=hok.at_ hx;have hN:=hok.Bz;have hal:=Y5.len;obtain⟨Qt,Qee,Rw⟩:=Qqr hn;refine Spec.U8 Tryz.func67 rfl Tryz.ntmps67 rfl ?_;intro w0 Γ;show S _ w0 [(0,pt b),(1,pt (ps x.id)),(2,.int .i64 (n:Int)),(3,.agg (ntC t bv).toArray)] (BP b st ps::R::Γ) _;refine S.Wv b st ps x hx fun ub jb mb ov iv dv mv sb l i av lb db rb qb hF hi Q5 Ld hJ=>?_;cases hs:x.Yt with
 | none=>
  have hg:Wy st x n t blob=st:=by rw[Wy,hs]
  have hqb:qb=none:=by have:=hJ.s;rw[hs]at this;cases qb with|none=>rfl|some q=>cases this
  subst hqb;refine ZS (ZY 2 (Zp (S.box (cs:=[_,_,_,_,_,_,_,_,_,_,_,_,_]) rfl rfl rfl ?_)));intro b7;refine ZY 8 (ZY 8 (Zp (Zc1 Ze (Qg5 (own av 3 1 (nds x.at_)) av x.at_ n hJ.an RdS.own) ?_)));rintro v Θ ⟨⟨r,rfl,_,_⟩,rfl⟩;refine ZY 4 ?_;refine Zd ([]) [] [0,1,2] (ZY 3 ?_);refine Zr (Zra 3 22) (ZY 8 (ZY 8 (ZY 6 ?_)));refine ZD (ZY 2 (S.Qn b st ps ub jb mb ov iv dv mv sb l i x av lb db rb none hi rfl (Q5 x rfl) (hF.set Y5) hJ ?_));rw[Qq hok hx];exact Zf ef Zq (by rw[hg])
 | some s=>
  obtain⟨q,hq⟩:∃q,qb=some q:=by have:=hJ.s;rw[hs]at this;cases qb with|none=>cases this|some q=>exact⟨q,rfl⟩
  subst hq;have hsl:=(Y5.svl s hs).1;have Zbi:∀(y:Sv),s.told=false→({s with bs:=s.bs.set Qt blob,have_:=Yj s.have_ n}:Sv)=⟨s.ver,s.Qb,Yj s.have_ n,false,s.bs.set Qt blob⟩:=fun _ h=>by rw[←h]
  refine S.conv (Ue (some q) x.id x.Yt) (show Ent _ (Ue (some q) x.id (some s)::_) by rw[hs];exact Ent.refl _) ?_;refine S.Qfe q x.id s fun hb sv=>?_;refine S.Qbf hb fun Ql9=>?_;have G2:=Qad Ql9;have hrl:Qt<x.at_.length:=(List.getElem?_eq_some_iff.1 Rw).1;refine ZS (ZY 2 (Zp (S.box (cs:=[_,_,_,_,_,_,_,_,_,_,_,_,_]) rfl rfl rfl ?_)));intro b7;refine ZY 8 (ZY 8 (Zp (Zc1 Ze (Qg5 (own av 3 1 (nds x.at_)) av x.at_ n hJ.an RdS.own) ?_)));rintro v Θ ⟨⟨r,rfl,hr1,Ca⟩,rfl⟩
  obtain rfl:r=some Qt:=by
   cases r with
   | none=>exact absurd rfl (hr1 rfl n hn)
   | some i9=>
    obtain⟨z,hz1,hz2,hz3⟩:=Ca i9 rfl;obtain rfl:z=n:=by omega
    have:=Q0w hz1 fun y hy e=>hz3 y hy (by rw[e]);rw[Qee]at this;exact this.symm
  rw[show oI (some Qt)=(Qt:Int) from rfl];refine ZY 4 ?_;refine Zd ([blk b7 72 (ntC t bv).toArray,blk q 131 #[.int .u32 (x.id:Int),.int .u32 (s.ver:Int),.int .i64 (s.Qb:Int),sv.v,.map (some hb),.bool s.told]]) [] [0,1,2] (ZY 3 ?_);refine Zr (Zra 3 6) (ZY 6 ?_)
  refine Zbb 28 ef (fun hg3_8=>?_) (fun hg3_8=>?_)
  ·have hg:=L5 (st:=st) (n:=n) (t:=t) (blob:=blob) hs Qee (.inl hg3_8);refine Zr (Zra 9 16) (ZY 8 (ZY 8 ?_));refine ZD (ZY 2 (S.H2 q hb sv x.id s ?_));refine S.conv (Ue (some q) x.id (some s)) (show Ent _ (Ue (some q) x.id x.Yt::_) by rw[hs];exact Ent.refl _) (S.Qn b st ps ub jb mb ov iv dv mv sb l i x av lb db rb (some q) hi rfl (Q5 x rfl) (hF.set Y5) hJ ?_);rw[Qq hok hx];exact Zf ef Zq (by rw[hg])
  ·refine Zr (Zra 9 10) (ZY 8 (ZY 2 ?_))
   refine Zb 38 ef (fun hg3_18=>?_) (fun hg3_18=>?_)
   ·have hg:=L5 (st:=st) (n:=n) (t:=t) (blob:=blob) hs Qee (.inr (.inl (by omega)));refine Zr (Zra 19 6) (ZY 6 ?_);refine ZD (ZY 2 (S.H2 q hb sv x.id s ?_));refine S.conv (Ue (some q) x.id (some s)) (show Ent _ (Ue (some q) x.id x.Yt::_) by rw[hs];exact Ent.refl _) (S.Qn b st ps ub jb mb ov iv dv mv sb l i x av lb db rb (some q) hi rfl (Q5 x rfl) (hF.set Y5) hJ ?_);rw[Qq hok hx];exact Zf ef Zq (by rw[hg])
   ·refine Zr (Zra 19 6) (ZY 2 ?_);refine Zwg ef ef ef ef (Xw Tryz.it3.h (by rw[Tryz.underlying5];rfl) rfl (Y0 (by omega) (by omega))) (ZY 3 ?_);refine ZD ?_
    refine Zj ef (fun h1=>?_) (fun h1=>?_)
    ·have hg:=L5 (st:=st) (n:=n) (t:=t) (blob:=blob) hs Qee (.inr (.inr (by omega)));refine Zy (S.H2 q hb sv x.id s ?_);refine S.conv (Ue (some q) x.id (some s)) (show Ent _ (Ue (some q) x.id x.Yt::_) by rw[hs];exact Ent.refl _) (S.Qn b st ps ub jb mb ov iv dv mv sb l i x av lb db rb (some q) hi rfl (Q5 x rfl) (hF.set Y5) hJ ?_);rw[Qq hok hx];exact Zf ef Zq (by rw[hg])
    ·have hgo:¬(s.told=true∨t.ver≠s.ver∨t.Qt≠Qt):=by
      rintro (h|h|h)
      ·rw[hg3_8]at h;cases h
      ·exact hg3_18 (by omega)
      ·exact h1 (by omega)
     refine S.conv (if s.told then (fun _=>True) else blobs sv s.bs) (show Ent _ (blobs sv s.bs::_) by rw[hg3_8];exact Ent.refl _) ?_;refine S.Qer sv s.bs fun os hos=>?_;have hol:os.length=s.bs.length:=by rw[←hos,List.length_map]
     refine S.Yf sv fun Pz Gq Si=>?_;rw[List.length_map]at Pz;refine S.Qp sv (by omega) fun vb vo hva _ _ _=>?_;obtain⟨o9,ho9⟩:=Yv (show Qt<os.length by omega);refine ZY 2 ?_;refine Zd ([blk b7 72 (ntC t bv).toArray,blk q 131 #[.int .u32 (x.id:Int),.int .u32 (s.ver:Int),.int .i64 (s.Qb:Int),sv.v,.map (some hb),.bool false]]) [10] (Zra 0 8) (ZY 8 ?_);refine Z1 (i:=8) ef ef ?_;refine  (Zc1 Ze (Qyw R bv blob hbn hR hbl) ?_);rintro v Θ ⟨u,rfl,hu,rfl⟩;refine Zk [9] ?_;refine Zw ef (Zx (Qt) ef (hva) ef (by omega)) ?_;refine Z1 (i:=10) ef ef ?_;refine(S.Yb (sv) (Qt) Eo.h rfl rfl rfl hva (by first|rfl|exact Nat.add_assoc _ _ _|omega) (by rw[List.length_map];omega) ((by rw[List.map_set]:_=(os.set Qt ((u,blob):Bb)).map bbV)) ?_);refine ZL ([]) [] ?_;refine ZD (ZY 7 (Zp (Zc1 Ze (Qj8 hb s.have_ n) ?_)));rintro v Θ rfl;refine S.Wj (own u 5 1 (bcells blob)) (alls os bbB) (Ent.Qgz bbB (x':=(u,blob)) ho9 _) ?_;obtain⟨os2,Ei⟩:∃os2:List Bb,os2=os.set Qt (u,blob):=⟨_,rfl⟩;rw[←Ei];have Qjm:os2.map (·.2)=s.bs.set Qt blob:=by rw[Ei,←hos,List.map_set]
     refine S.Wj (own sv 22 1 (os2.map bbV)) (alls os2 bbB) (Ent.Qe5 sv os2 _) ?_;rw[Qjm];refine ZY 2 ?_;refine Zd0 (Zra 0 11) (ZY 8 (ZY 3 ?_));refine ZD ?_
     refine Zj ef (fun h2=>?_) (fun h2=>?_)
     ·have Qpi:(Yj s.have_ n).length=x.at_.length:=by have:=F5 (Yj s.have_ n);have:=hJ.an;omega
      have hg:=Qhz (st:=st) (t:=t) (blob:=blob) hs Qee hgo Qpi;obtain⟨x1,Z4⟩:∃x1:Bj,x1={x with Yt:=some ⟨s.ver,s.Qb,Yj s.have_ n,true,s.bs.set Qt blob⟩}:=⟨_,rfl⟩;have Dy:JOk st.nodes x1:=by rw[Z4];exact Y5.sset (by rw[List.length_set];exact hsl) (Y5.svl s hs).2
      have hid:x1.id=x.id:=by rw[Z4]
      obtain⟨im,him⟩:∃im:Im,im=⟨x.id,s.ver,s.Qb,s.bs.set Qt blob⟩:=⟨_,rfl⟩;refine S.Eh iv st.Qe fun io hio=>?_;have hiol:io.length=st.Qe.length:=by rw[←hio,List.length_map]
      have hin:=hF.im;refine ZY 7 ?_;refine Zd ([blk q 131 #[.int .u32 (x.id:Int),.int .u32 (s.ver:Int),.int .i64 (s.Qb:Int),sv.v,.map (some hb),.bool true],blk b 84 (bC st ub jb mb ov iv dv mv sb).toArray]) [13] (Zra 0 9) (ZY 8 (Zy ?_));refine Z1 (i:=9) ef ef ?_;refine(S.buildSlice (pvs:=[(_,_)]) [_,_,_,_] Tryz.underlying51 Tryz.Qja.h rfl rfl ⟨⟨rfl,rfl⟩,trivial⟩ rfl rfl ?_);intro b84;refine Zk [] ?_;refine Z1 (i:=10) ef ef ?_;refine(S.Qu (s:=iv) (1) (igC ((sv,⟨x.id,s.ver,s.Qb,s.bs.set Qt blob⟩):Ig)) Tryz.underlying51 Tryz.Qja.h rfl rfl rfl (Qy (b:=b84) rfl (by unfold maxLen;omega)) (by first|rfl|exact Ql _) (⟨by omega,by omega⟩) rfl ?_);intro iv2 Zb6;refine Zk [11,12] (ZY 2 ?_);refine Z1 (i:=13) ef ef ?_;refine(S.store (cs':=[_,_,_,_,_,_,_,_,_,_,_,_,_,_,_,_,_,_]) Eo.h rfl rfl rfl rfl rfl ?_);refine ZL ([]) [] ?_;refine ZD ?_;refine S.Wj (igB ((sv,⟨x.id,s.ver,s.Qb,s.bs.set Qt blob⟩):Ig)) (alls io igB) (Ent.Hn igB io ((sv,⟨x.id,s.ver,s.Qb,s.bs.set Qt blob⟩):Ig) _) ?_;rw[Xg igC io ((sv,⟨x.id,s.ver,s.Qb,s.bs.set Qt blob⟩):Ig)];refine S.Wj (own iv2 60 4 ((io++[((sv,⟨x.id,s.ver,s.Qb,s.bs.set Qt blob⟩):Ig)]).flatMap igC)) (alls (io++[((sv,⟨x.id,s.ver,s.Qb,s.bs.set Qt blob⟩):Ig)]) igB) (Ent.Ts iv2 _ _) ?_;rw[List.map_append,hio,List.map_cons,List.map_nil];refine S.Qfd q hb sv x.id s.ver s.Qb (Yj s.have_ n) (s.bs.set Qt blob) (S.Yw (ps x.id) (bjC x1 av lb db rb (some q)).toArray (by rw[Z4]) ?_);refine S.sub (jX (ps x.id) x1 av lb db rb (some q) (bR b {st with Qe:=st.Qe++[⟨x.id,s.ver,s.Qb,s.bs.set Qt blob⟩]} ps ub jb mb ov iv2 dv mv sb l i (R::Γ))) (e:=by subst Z4;infer_instance) ?_;refine S.Qn b {st with Qe:=st.Qe++[⟨x.id,s.ver,s.Qb,s.bs.set Qt blob⟩]} ps ub jb mb ov iv2 dv mv sb l i x1 av lb db rb (some q) hi hid (Q5 x1 hid) (BF.set (st:={st with Qe:=st.Qe++[⟨x.id,s.ver,s.Qb,s.bs.set Qt blob⟩]}) ⟨hok.iset _,hF.perm,hF.on,by show iv2.n=(st.Qe++[_]).length;rw[List.length_append,List.length_singleton];omega,hF.dn,hF.mn,hF.sn⟩ Dy) ⟨by rw[Z4];exact hJ.an,by rw[Z4];exact hJ.l,by rw[Z4];exact hJ.d,by rw[Z4];exact hJ.r,by rw[Z4];rfl⟩ ?_;rw[Z4];exact Zfn ef Zq (by rw[hg])
     ·have Zbq:¬(Yj s.have_ n).length=x.at_.length:=by have:=F5 (Yj s.have_ n);have:=hJ.an;omega
      have hg:=Qhy (st:=st) (t:=t) (blob:=blob) hs Qee hgo Zbq;obtain⟨x1,Z4⟩:∃x1:Bj,x1={x with Yt:=some (svT s Qt n blob)}:=⟨_,rfl⟩;have Dy:JOk st.nodes x1:=by rw[Z4];exact Y5.sset (by rw[List.length_set];exact hsl) (Y5.svl s hs).2
      have hid:x1.id=x.id:=by rw[Z4]
      refine Zy (S.Qaf q hb sv x.id s.ver s.Qb (Yj s.have_ n) (s.bs.set Qt blob) (S.Yw (ps x.id) (bjC x1 av lb db rb (some q)).toArray (by rw[Z4]) ?_));refine S.sub (jX (ps x.id) x1 av lb db rb (some q) (bR b st ps ub jb mb ov iv dv mv sb l i (R::Γ))) (e:=by rw[Z4];show Sub (jX _ {x with Yt:=some {s with bs:=s.bs.set Qt blob,have_:=Yj s.have_ n}} _ _ _ _ _ _) _;rw[Zbi s hg3_8];infer_instance) ?_;refine S.Qn b st ps ub jb mb ov iv dv mv sb l i x1 av lb db rb (some q) hi hid (Q5 x1 hid) (hF.set Dy) ⟨by rw[Z4];exact hJ.an,by rw[Z4];exact hJ.l,by rw[Z4];exact hJ.d,by rw[Z4];exact hJ.r,by rw[Z4];rfl⟩ ?_;rw[Z4];exact Zfn ef Zq (by rw[hg])
theorem Q0m{rs:List Ro}{id:Nat}(h:Yg id (rs.map roR)=none):Q1 (id:Int) (rs.map roE)=none:=by
 induction rs with
 | nil=>rfl
 | cons o rs ih=>
  simp only[List.map_cons,Yg]at h
  split at h
  ·cases h
  ·rename_i e;simp only[List.map_cons,Q1];rw[if_neg (by omega)];exact ih h
theorem S2{rs:List Ro}{id:Nat}{r:Rk}(h:Yg id (rs.map roR)=some r):∃(i:Nat) (p:Nat),rs[i]?=some (id,r,p)∧Q1 (id:Int) (rs.map roE)=some (pt p) ∧
  (∀r',Xl id r' (rs.map roR)=(rs.set i (id,r',p)).map roR)∧(∀r',(rs.set i (id,r',p)).map roE=rs.map roE)∧(∀r' p',Yd (id:Int) (pt p') (rs.map roE)=(rs.set i (id,r',p')).map roE)∧(∀r' p',Xl id r' (rs.map roR)=(rs.set i (id,r',p')).map roR) ∧
  Ko (id:Int) (rs.map roE)=(rs.eraseIdx i).map roE∧Ha id (rs.map roR)=(rs.eraseIdx i).map roR:=by
 induction rs with
 | nil=>cases h
 | cons o rs ih=>
  obtain⟨a,q,p⟩:=o;simp only[List.map_cons,Yg]at h
  split at h
  ·rename_i e;have e:a=id:=e;cases h;subst e
   refine⟨0,p,rfl,?_,fun r'=>?_,fun r'=>rfl,fun r' p'=>?_,fun r' p'=>?_,?_,?_⟩
   ·simp only[List.map_cons,Q1,if_true]
   ·simp only[List.map_cons,Xl,if_true,List.set_cons_zero]
   ·simp only[List.map_cons,Yd,if_true,List.set_cons_zero]
   ·simp only[List.map_cons,Xl,if_true,List.set_cons_zero]
   ·simp only[List.map_cons,Ko,if_true,List.eraseIdx_cons_zero]
   ·simp only[List.map_cons,Ha,if_true,List.eraseIdx_cons_zero]
  ·rename_i e;have e:a≠id:=e;have e2:(id:Int)≠(a:Int):=by omega
   obtain⟨i,p2,h1,h2,h3,h4,h5,h6,h7,h8⟩:=ih h
   refine⟨i+1,p2,h1,?_,fun r'=>?_,fun r'=>?_,fun r' p'=>?_,fun r' p'=>?_,?_,?_⟩
   ·simp only[List.map_cons,Q1];rw[if_neg (by omega)];exact h2
   ·simp only[List.map_cons,Xl,List.set_cons_succ];rw[if_neg e,h3]
   ·simp only[List.map_cons,List.set_cons_succ];rw[h4]
   ·simp only[List.map_cons,Yd,List.set_cons_succ];rw[if_neg (by omega),h5]
   ·simp only[List.map_cons,Xl,List.set_cons_succ];rw[if_neg e,h6]
   ·simp only[List.map_cons,Ko,List.eraseIdx_cons_succ];rw[if_neg (by omega),h7]
   ·simp only[List.map_cons,Ha,List.eraseIdx_cons_succ];rw[if_neg e,h8]
theorem Q6f{rs:List Ro}{id:Nat}(h:Yg id (rs.map roR)=none)(r:Rk)(p:Nat):Yd (id:Int) (pt p) (rs.map roE)=(rs++[(id,r,p)]).map roE∧Xl id r (rs.map roR)=(rs++[(id,r,p)]).map roR∧Ko (id:Int) (rs.map roE)=rs.map roE∧Ha id (rs.map roR)=rs.map roR:=by
 induction rs with
 | nil=>exact⟨rfl,rfl,rfl,rfl⟩
 | cons o rs ih=>
  obtain⟨a,q,p2⟩:=o;simp only[List.map_cons,Yg]at h
  split at h
  ·cases h
  ·rename_i e;have e:a≠id:=e;obtain⟨h1,h2,h3,h4⟩:=ih h
   refine⟨?_,?_,?_,?_⟩
   ·simp only[List.map_cons,Yd,List.cons_append];rw[if_neg (by omega),h1]
   ·simp only[List.map_cons,Xl,List.cons_append];rw[if_neg e,h2]
   ·simp only[List.map_cons,Ko];rw[if_neg (by omega),h3]
   ·simp only[List.map_cons,Ha];rw[if_neg e,h4]
theorem Qt8{rs:Rs}(hn:amB rs=true){y:Nat×Rk}(hy:y∈rs)(hr:y.2.run=true):Qz rs=y.1:=by
 have h1:(rs.filter (·.2.run)).length≤1:=of_decide_eq_true hn;have hyf:y∈rs.filter (·.2.run):=List.mem_filter.2 ⟨hy,hr⟩;unfold Qz;cases hf:rs.find? (·.2.run) with
 | none=>exact absurd hr (by simpa using List.find?_eq_none.1 hf y hy)
 | some z=>
  have hz:z∈rs.filter (·.2.run):=List.mem_filter.2 ⟨List.mem_of_find?_eq_some hf,by have h9:=List.find?_some hf;exact h9⟩;cases hl:rs.filter (·.2.run) with
  | nil=>rw[hl]at hyf;cases hyf
  | cons a l=>
   rw[hl]at h1 hyf hz;cases l with
   | nil=>rw[List.mem_singleton.1 hyf,List.mem_singleton.1 hz]
   | cons b l=>simp at h1
theorem Qt7{rs:Rs}(h:∀y∈rs,y.2.run=false):Qz rs=0:=by
 unfold Qz;rw[List.find?_eq_none.2 fun y hy=>by rw[h y hy];decide]
theorem Ent.Qh9{rs:List Ro}{i:Nat}{o:Ro}(h:rs[i]?=some o)(Γ:List Assn):Ent (alls rs roB::Γ) (roB o::alls (rs.take i) roB::alls (rs.drop (i+1)) roB::Γ):=Ent.Wp roB h Γ
theorem Q09{rs js:List Ro}{i:Nat}{o:Ro}(h:js[i]?=some o)(hp:∀x∈js,x∈rs):∃k:Nat,rs[k]?=some o:=by
 obtain⟨k,hk,e⟩:=List.getElem_of_mem (hp o (List.mem_of_getElem? h));exact⟨k,by rw[List.getElem?_eq_getElem hk,e]⟩
set_option maxHeartbeats 1000000 in
theorem Qfh{p:Nat}{nd:Nd}{rb:Nat}{iv ov:SV}{rs:List Ro}{os:List Ot}(hN:NF nd iv ov rs os)(ham:amB nd.rk=true):Spec Tryz.prog 59 [pt p] (ndX p nd rb iv ov rs os []) fun Γ v Θ=>v=.int .u32 (Qz nd.rk:Nat)∧Θ=ndX p nd rb iv ov rs os Γ:=by
 refine Zbd Tryz.func59 rfl Tryz.ntmps59 fun w0 Γ=>Zsh (ZY 8 (ZY 3 (Zp (S.range Tryz.underlying104 rfl rfl ?_))));intro r9;refine ZY 2 ?_;refine Zl (fun k ρ' Γ'=>∃(left:List (Int×Value)) (cur:Option (Int×Value)) (jl:List Ro),k=left.length∧left=jl.map roE∧(∀x∈jl,x∈rs)∧(∀x∈rs,x∈jl∨x.2.1.run=false)∧ρ'=[(0,pt p),(9,.pointer (some ⟨r9,0,none⟩))] ∧   Γ'=Kj r9 rb .u32 (rs.map roE) left cur::blk p 107 #[.bool nd.up,.map (some rb),iv.v,ov.v,.bool nd.Qf]::alls rs roB::own iv 72 13 (nd.Yi.flatMap niC)::own ov 72 13 (os.flatMap otC)::alls os otB::Γ) (m:=_) (⟨rs.map roE,none,rs,rfl,rfl,fun x hx=>hx,fun x hx=>.inl hx,rfl,rfl⟩) ?_;rintro k ρ' Γ' ⟨left,cur,jl,hk,Jt,Qgh,hall,rfl,rfl⟩;refine ZY 2 ?_
 refine Zp (S.Yh rfl rfl (fun Zf8=>?_) (fun i10 z10 v10 Q20=>?_))
 ·have hro:Qz nd.rk=0:=Qt7 fun y hy=>by
   rw[←hN.rk]at hy;obtain⟨x,hx,e⟩:=List.mem_map.1 hy;subst e
   rcases hall x hx with h|h
   ·rw[Zf8]at Jt;rw[List.map_eq_nil_iff.1 Jt.symm]at h;cases h
   ·exact h
  refine ZY 8 (ZY 2 (S.conv (Kj r9 rb .u32 (rs.map roE) left cur) (Ent.Kj _) ?_));exact Zf ef Zq (⟨by rw[hro];rfl,rfl⟩)
 ·obtain⟨x,hx,hxe⟩:∃x,jl[i10]?=some x∧roE x=(z10,v10):=by
   rw[Jt,List.getElem?_map]at Q20;exact Option.map_eq_some_iff.1 Q20
  simp only[roE,Prod.mk.injEq]at hxe;obtain⟨rfl,rfl⟩:=hxe;obtain⟨q,hq⟩:=Q09 hx Qgh
  have hlen:(left.eraseIdx i10).length<k:=by
   rw[hk,List.length_eraseIdx_of_lt (by have:=(List.getElem?_eq_some_iff.1 Q20).1;exact this)];have:=(List.getElem?_eq_some_iff.1 Q20).1;omega
  have hle:(left.eraseIdx i10)=(jl.eraseIdx i10).map roE:=by rw[Jt,X1]
  refine S.conv (alls rs roB) (Ent.Qh9 hq _) (ZY 8 (Zv (Gl rfl) (ZY 8 (ZY 4 ?_))))
  refine Zi ef (fun h2=>?_) (fun h2=>?_)
  ·have hro:Qz nd.rk=x.1:=Qt8 ham (y:=roR x) (by rw[←hN.rk];exact List.mem_map.2 ⟨x,List.mem_of_getElem? hq,rfl⟩) h2;refine ZY 6 (S.Xb (roB x) (alls (rs.take q) roB) (alls (rs.drop (q+1)) roB) (Ent.Xc roB hq _) (S.conv (Kj r9 rb .u32 (rs.map roE) (left.eraseIdx i10) (some ((x.1:Int),pt x.2.2))) (Ent.Kj _) ?_));exact Zf ef Zq (⟨by rw[hro];rfl,rfl⟩)
  ·have Qjo:∀y∈rs,y∈jl.eraseIdx i10∨y.2.1.run=false:=fun y hy=>by
    rcases hall y hy with h|h
    ·by_cases e:y=x
     ·exact .inr (by rw[e];exact h2)
     ·refine .inl ?_;obtain⟨j,hj,ej⟩:=List.getElem_of_mem h;exact List.mem_eraseIdx_iff_getElem?.2 ⟨j,fun e9=>e (by subst e9;rw[List.getElem?_eq_getElem hj,ej]at hx;exact Option.some.inj hx),by rw[List.getElem?_eq_getElem hj,ej]⟩
    ·exact .inr h
   refine Zy (S.Xb (roB x) (alls (rs.take q) roB) (alls (rs.drop (q+1)) roB) (Ent.Xc roB hq _) ?_);exact ZX ((left.eraseIdx i10).length) (⟨left.eraseIdx i10,some ((x.1:Int),pt x.2.2),jl.eraseIdx i10,rfl,hle,fun y hy=>Qgh y (List.mem_of_mem_eraseIdx hy),Qjo,rfl,rfl⟩) (hlen)
theorem Qdj(p:Nat)(nd:Nd)(ham:amB nd.rk=true):Spec Tryz.prog 59 [pt p] [NI p nd] fun Γ v Θ=>v=.int .u32 (Qz nd.rk:Nat)∧Θ=NI p nd::Γ:=by
 intro Γ w hs;obtain⟨h0,l0,h1,h2,d,l1,l2,⟨rb,iv,ov,rs,os,q1,q2⟩,s⟩:=hs;refine(Qfh (rb:=rb) q1 ham Γ w ⟨h0,l0,(Ent.unpack (ndX p nd rb iv ov rs os []) Γ) _ ⟨h1,h2,d,l1,l2,q2,s⟩⟩).mono ?_;rintro e w' ⟨v,Θ,e1,⟨e2,e3⟩,e4,e5⟩;refine⟨v,NI p nd::Γ,e1,⟨e2,rfl⟩,?_,e5⟩;rw[e3]at e4;exact e4.Qh ((Ent.pack (ndX p nd rb iv ov rs os []) Γ).trans (Ent.W9 Γ fun _ s=>⟨rb,iv,ov,rs,os,q1,s⟩))
theorem NF.rset{nd:Nd}{iv ov:SV}{rs:List Ro}{os:List Ot}(h:NF nd iv ov rs os){rk:Rs}{rs':List Ro}(hr:rs'.map roR=rk):NF {nd with rk:=rk} iv ov rs' os:=⟨hr,h.os,h.i,h.o⟩
theorem Qq3{now:Nat}{nd:Nd}(h:¬Qz nd.rk≠0):Q2 now nd=nd:=by rw[Q2,if_neg h]
theorem Qls{now:Nat}{nd:Nd}{r:Rk}(h:Qz nd.rk≠0)(hg:Yg (Qz nd.rk) nd.rk=some r):Q2 now nd={nd with rk:=Xl (Qz nd.rk) {r with Un:=now,W7:=if r.W7=0 then now else r.W7} nd.rk}:=by rw[Q2,if_pos h,hg]
theorem L7{rs:Rs}(h:Qz rs≠0):∃r,Yg (Qz rs) rs=some r:=by
 obtain⟨r,h1,_⟩:=Kv h;cases hg:Yg (Qz rs) rs with
 | some r=>exact⟨r,rfl⟩
 | none=>exact absurd (List.mem_map.2 ⟨_,h1,rfl⟩) (Je.1 hg)
theorem Q1l(p:Nat)(nd:Nd)(now:Nat)(ham:amB nd.rk=true):Spec Tryz.prog 96 [pt p,.int .u32 (now:Int)] [NI p nd] fun Γ _ Θ=>Θ=NI p (Q2 now nd)::Γ:=by
 refine Zbd Tryz.func96 rfl Tryz.ntmps96 fun w0 Γ=>Zsh (ZY 3 (Zp (Zcp Ze (Qdj p nd ham) (ZY 7 ?_))))
 refine Zj ef (fun h1=>?_) (fun h1=>?_)
 ·obtain⟨j0,hj0⟩:∃j0,j0=Qz nd.rk:=⟨_,rfl⟩;have Uk:Qz nd.rk≠0:=by omega
  obtain⟨r,hr⟩:=L7 Uk;have hg:=Qls (now:=now) Uk hr;rw[←hj0]at hr hg ⊢;refine S.Fu p nd fun rb iv ov rs os hN=>?_;obtain⟨i,q,k1,k2,k3,k4,_⟩:=S2 (rs:=rs) (id:=j0) (r:=r) (by rw[hN.rk];exact hr);refine S.conv (alls rs roB) (Ent.Qh9 k1 _) (ZY 7 ?_);refine Zv (Qj (pt q) Tryz.underlying104 Tryz.underlying31 Tryz.Qhb.h rfl rfl rfl (by rw[k2];rfl)) (ZY 8 (ZY 8 (ZY 2 ?_)))
  refine Zj ef (fun h2=>?_) (fun h2=>?_)
  ·refine ZY 7 ?_;have h29:(r.W7:Int)=0:=h2;obtain⟨r1,hr1⟩:∃r1:Rk,r1={r with Un:=now,W7:=if r.W7=0 then now else r.W7}:=⟨_,rfl⟩;rw[←hr1]at hg;refine S.Yw q (rkC r1).toArray (by rw[hr1];simp only[rkC];rw[if_pos (by omega)]) (S.Xb (roB ((j0,r1,q):Ro)) (alls (rs.take i) roB) (alls (rs.drop (i+1)) roB) (Ent.Yl roB (x':=(j0,r1,q)) k1 _) ?_);refine S.conv (Qk rb .u32 (rs.map roE)) (show Ent _ (Qk rb .u32 ((rs.set i (j0,r1,q)).map roE)::_) by rw[k4 r1];exact Ent.refl _) (S.Z7 p {nd with rk:=Xl j0 r1 nd.rk} rb iv ov (rs.set i (j0,r1,q)) os (hN.rset (by rw[←k3,hN.rk])) ?_);rw[←hg];exact Zfn ef Zq (rfl)
  ·refine Zy ?_;have h29:¬(r.W7:Int)=0:=h2;obtain⟨r1,hr1⟩:∃r1:Rk,r1={r with Un:=now,W7:=if r.W7=0 then now else r.W7}:=⟨_,rfl⟩;rw[←hr1]at hg;refine S.Yw q (rkC r1).toArray (by rw[hr1];simp only[rkC];rw[if_neg (by omega)]) (S.Xb (roB ((j0,r1,q):Ro)) (alls (rs.take i) roB) (alls (rs.drop (i+1)) roB) (Ent.Yl roB (x':=(j0,r1,q)) k1 _) ?_);refine S.conv (Qk rb .u32 (rs.map roE)) (show Ent _ (Qk rb .u32 ((rs.set i (j0,r1,q)).map roE)::_) by rw[k4 r1];exact Ent.refl _) (S.Z7 p {nd with rk:=Xl j0 r1 nd.rk} rb iv ov (rs.set i (j0,r1,q)) os (hN.rset (by rw[←k3,hN.rk])) ?_);rw[←hg];exact Zfn ef Zq (rfl)
 ·refine Zy ?_;have hg:=Qq3 (now:=now) (show ¬Qz nd.rk≠0 by omega);refine S.conv (NI p nd) (show Ent _ (NI p (Q2 now nd)::_) by rw[hg];exact Ent.refl _) ?_;exact Zfn ef Zq (rfl)
theorem Ent.Qpy(b:Nat)(e sz m:Nat)(cs:List Value)(hl:cs.length=m*sz)(hm:m≤maxLen)(Γ:List Assn):Ent (blk b e cs.toArray::Γ) (own ⟨some ⟨b,0,none⟩,m,m⟩ e sz cs::Γ):=Ent.W9 Γ fun h p=>by
 refine⟨hl,.inr ⟨b,0,cs.toArray,rfl,p,Nat.le_refl _,hm,by simp[hl],?_⟩⟩;simp only[List.drop_zero];exact List.take_of_length_le (by omega)
theorem Q1d:∀o,(otC o).length=13:=fun _=>rfl
section
variable {nd:Nd}{x:Nt}
theorem Qkb(h:x.kind=3):Q8 nd x={nd with Qf:=nd.Qf || (Yg x.Qm nd.rk).isSome,rk:=Xl x.Qm {place:=x.Qt} nd.rk,out:=nd.out++[({kind:=4,Qm:=x.Qm},[])]}:=by rw[Q8,if_pos h]
theorem Q34(h:x.kind=5)(hg:Yg x.Qm nd.rk=none):Q8 nd x={nd with Qf:=true}:=by rw[Q8,if_neg (by omega),if_pos h,hg]
theorem Qy6{r:Rk}(h:x.kind=5)(hg:Yg x.Qm nd.rk=some r):Q8 nd x={nd with Qf:=nd.Qf || decide (Qz nd.rk≠0),rk:=Xl x.Qm {r with run:=true,gen:=x.gen,W7:=0,Un:=0} nd.rk}:=by rw[Q8,if_neg (by omega),if_pos h,hg]
theorem Qev(h:x.kind=6)(hr:¬Qz nd.rk≠0):Q8 nd x={nd with out:=nd.out++[({kind:=7,gen:=x.gen},[])]}:=by rw[Q8,if_neg (by omega),if_neg (by omega),if_pos h,if_neg hr]
theorem Qka{r:Rk}(h:x.kind=6)(hr:Qz nd.rk≠0)(hg:Yg (Qz nd.rk) nd.rk=some r):Q8 nd x={nd with rk:=Xl (Qz nd.rk) {r with run:=false} nd.rk,out:=nd.out++[({kind:=7,gen:=x.gen,Qm:=Qz nd.rk,W7:=r.W7,Un:=r.Un},[])]}:=by rw[Q8,if_neg (by omega),if_neg (by omega),if_pos h,if_pos hr,hg]
theorem Qso(h:x.kind=8)(hg:Yg x.Qm nd.rk=none):Q8 nd x={nd with Qf:=true}:=by rw[Q8,if_neg (by omega),if_neg (by omega),if_neg (by omega),if_pos h,hg]
theorem Qy5{r:Rk}(h:x.kind=8)(hg:Yg x.Qm nd.rk=some r):Q8 nd x={nd with Qf:=nd.Qf || r.run,out:=nd.out++[({kind:=9,Qm:=x.Qm,ver:=x.ver,Qt:=r.place},[(r.place:Int),((x.Qb % 256:Nat):Int)])]}:=by rw[Q8,if_neg (by omega),if_neg (by omega),if_neg (by omega),if_pos h,hg]
theorem Qkd(h:x.kind=10):Q8 nd x={nd with rk:=Ha x.Qm nd.rk,out:=nd.out++[({kind:=11,Qm:=x.Qm},[])]}:=by rw[Q8,if_neg (by omega),if_neg (by omega),if_neg (by omega),if_neg (by omega),if_pos h]
theorem Qex(h3:x.kind≠3)(h5:x.kind≠5)(h6:x.kind≠6)(h8:x.kind≠8)(h10:x.kind≠10):Q8 nd x=nd:=by rw[Q8,if_neg h3,if_neg h5,if_neg h6,if_neg h8,if_neg h10]
end
theorem Qnh(n:Nat):IntKind.u8.wrap (n:Int)=((n % 256:Nat):Int):=by
 simp only[IntKind.wrap,IntKind.bits,IntKind.signed,Bool.false_and,Bool.false_eq_true,if_false];show (n:Int) % 256=((n % 256:Nat):Int);omega
theorem Ent.Qu6(ov:SV)(os:List Ot)(o:Ot)(Γ:List Assn):Ent (own ov 72 13 (os.flatMap otC++otC o)::alls os otB::otB o::Γ) (own ov 72 13 ((os++[o]).flatMap otC)::alls (os++[o]) otB::Γ):=by
 rw[←Xg otC os o];exact((Ent.swap _ _ _).trans (Ent.Hn otB os o Γ)).cons _
theorem Ent.Ah(ov:SV)(os:List Ot)(x:Nt)(Γ:List Assn):Ent (own ov 72 13 (os.flatMap otC++otC ⟨x,SV.nil,[]⟩)::alls os otB::Γ) (own ov 72 13 ((os++[(⟨x,SV.nil,[]⟩:Ot)]).flatMap otC)::alls (os++[(⟨x,SV.nil,[]⟩:Ot)]) otB::Γ):=
 (((show Ent Γ (otB ⟨x,SV.nil,[]⟩::Γ) from Ent.Ye 5 1).cons _).cons _).trans (Ent.Qu6 ov os ⟨x,SV.nil,[]⟩ Γ)
theorem NF.say{nd:Nd}{iv ov ov':SV}{rs rs':List Ro}{os:List Ot}(h:NF nd iv ov rs os)(o:Ot)(ho:ov'.n=ov.n+1){rk:Rs}(hr:rs'.map roR=rk)(wr:Bool):NF {nd with rk:=rk,out:=nd.out++[otR o],Qf:=wr} iv ov' rs' (os++[o]):=⟨hr,by rw[List.map_append,h.os];rfl,h.i,by show ov'.n=(nd.out++[otR o]).length;rw[List.length_append,List.length_singleton,ho,h.o]⟩
set_option maxHeartbeats 8000000 in
theorem Zc2(p:Nat)(nd:Nd)(x:Nt)(ham:amB nd.rk=true)(hol:nd.out.length≤1000000000000):Spec Tryz.prog 97 [pt p,.agg (niC x).toArray] [NI p nd] fun Γ _ Θ=>Θ=NI p (Q8 nd x)::Γ:=by
 refine Zbd Tryz.func97 rfl Tryz.ntmps97 fun w0 Γ=>Zsh ?_;refine S.Fu p nd fun rb iv ov rs os hN=>?_;have hon:=hN.o;have Rw:=hN.rk;refine ZY 2 (Zp (S.box (cs:=[_,_,_,_,_,_,_,_,_,_,_,_,_]) rfl rfl rfl ?_));intro b3;refine ZY 2 ?_
 rcases hgr:Yg x.Qm nd.rk with _|r
 ·have J0:Q1 (x.Qm:Int) (rs.map roE)=none:=Q0m (by rw[Rw];exact hgr);have Ql8:=fun r p=>Q6f (rs:=rs) (id:=x.Qm) (by rw[Rw];exact hgr) r p;refine Zd0 (Zra 0 8) (ZY 6 ?_);refine Zw ef (Qj (.pointer none) Tryz.underlying104 Tryz.underlying31 Tryz.Qhb.h rfl rfl rfl (by rw[J0];rfl)) (Zy ?_);refine ZD (ZY 8 (ZY 3 ?_))
  refine Zj ef (fun h1=>?_) (fun h1=>?_)
  ·have hk:x.kind=3:=by omega
   have hact:=Qkb (nd:=nd) hk;rw[hgr]at hact;refine ZY 8 ?_
   refine Zbb 24 ef (fun hg4_5=>?_) (fun hg4_5=>?_)
   ·refine ZY 8 ?_;refine Zd ([blk b3 72 (niC x).toArray,blk p 107 #[.bool nd.up,.map (some rb),iv.v,ov.v,.bool (nd.Qf || (Yg x.Qm nd.rk).isSome)]]) [10] (Zra 0 9) ?_;refine S.Yw p #[.bool nd.up,.map (some rb),iv.v,ov.v,.bool (nd.Qf || (Yg x.Qm nd.rk).isSome)] (by rw[hgr];simp[hg4_5]) (ZY 8 ?_);refine Zw ef (Q3 (pvs:=[(_,_)]) [_,_,_,_,_] Tryz.Qzq.h Tryz.Q1a.h ⟨⟨rfl,rfl⟩,trivial⟩ rfl) ?_;refine Z1 (i:=9) ef ef ?_;refine(S.box (cs:=[_,_,_,_,_]) rfl rfl rfl ?_);intro b39;refine Zk [] ?_;refine Z1 (i:=10) ef ef ?_;refine(S.mapUpdate Tryz.underlying104 Tryz.underlying31 rfl rfl rfl rfl ?_);refine ZL ([]) [] ?_;refine ZD ?_;refine Zd ([blk b3 72 (niC x).toArray,blk p 107 #[.bool nd.up,.map (some rb),iv.v,ov.v,.bool (nd.Qf || (Yg x.Qm nd.rk).isSome)]]) [12] (Zra 0 8) (ZY 7 ?_);refine Zw ef (Q3 (pvs:=[(_,_),(_,_)]) [_,_,_,_,_,_,_,_,_,_,_,_,_] Tryz.z72.h Tryz.p72.h ⟨⟨rfl,rfl⟩,⟨rfl,rfl⟩,trivial⟩ rfl) ?_;refine Z1 (i:=8) ef ef ?_;refine(S.buildSlice (pvs:=[(_,_)]) [_,_,_,_,_,_,_,_,_,_,_,_,_] Tryz.underlying105 Tryz.Ua.h rfl rfl ⟨⟨rfl,rfl⟩,trivial⟩ rfl rfl ?_);intro b48;refine Zk [] ?_;refine Z1 (i:=9) ef ef ?_;refine(S.Qu (s:=ov) (1) (otC ⟨{kind:=4,Qm:=x.Qm},SV.nil,[]⟩) Tryz.underlying105 Tryz.Ua.h rfl rfl rfl (Qy (b:=b48) rfl (by unfold maxLen;omega)) (by first|rfl|exact Ql _) (⟨by omega,by omega⟩) rfl ?_);intro ov2 Wf;refine Zk [10,11] (ZY 2 ?_);refine Z1 (i:=12) ef ef ?_;refine(S.store (cs':=[_,_,_,_,_]) Eo.h rfl rfl rfl rfl rfl ?_);refine ZL ([]) [] ?_;refine ZD ?_;refine S.Wj (own ov2 72 13 (os.flatMap otC++otC ⟨{kind:=4,Qm:=x.Qm},SV.nil,[]⟩)) (alls os otB) (Ent.Ah ov2 os {kind:=4,Qm:=x.Qm} _) ?_;obtain⟨m1,m2,_⟩:=Ql8 {place:=x.Qt} b39;rw[m1];refine S.Wj (blk b39 111 (rkC {place:=x.Qt}).toArray) (alls rs roB) (Ent.Hn roB rs ((x.Qm,{place:=x.Qt},b39):Ro) _) ?_;refine S.Z7 p {nd with rk:=Xl x.Qm {place:=x.Qt} nd.rk,out:=nd.out++[otR ⟨{kind:=4,Qm:=x.Qm},SV.nil,[]⟩],Qf:=nd.Qf || (Yg x.Qm nd.rk).isSome} rb iv ov2 (rs++[(x.Qm,{place:=x.Qt},b39)]) (os++[⟨{kind:=4,Qm:=x.Qm},SV.nil,[]⟩]) (hN.say ⟨{kind:=4,Qm:=x.Qm},SV.nil,[]⟩ Wf (by rw[←m2,Rw]) _) ?_;refine S.conv (NI p {nd with rk:=Xl x.Qm {place:=x.Qt} nd.rk,out:=nd.out++[otR ⟨{kind:=4,Qm:=x.Qm},SV.nil,[]⟩],Qf:=nd.Qf || (Yg x.Qm nd.rk).isSome}) (show Ent _ (NI p (Q8 nd x)::_) by rw[hact,hgr];exact Ent.refl _) ?_;exact Zfn ef Zq (rfl)
   ·refine ZY 8 ?_;refine Zd ([blk b3 72 (niC x).toArray,blk p 107 #[.bool nd.up,.map (some rb),iv.v,ov.v,.bool (nd.Qf || (Yg x.Qm nd.rk).isSome)]]) [10] (Zra 0 9) ?_;refine S.Yw p #[.bool nd.up,.map (some rb),iv.v,ov.v,.bool (nd.Qf || (Yg x.Qm nd.rk).isSome)] (by rw[hgr];simp[hg4_5]) (ZY 8 ?_);refine Zw ef (Q3 (pvs:=[(_,_)]) [_,_,_,_,_] Tryz.Qzq.h Tryz.Q1a.h ⟨⟨rfl,rfl⟩,trivial⟩ rfl) ?_;refine Z1 (i:=9) ef ef ?_;refine(S.box (cs:=[_,_,_,_,_]) rfl rfl rfl ?_);intro b39;refine Zk [] ?_;refine Z1 (i:=10) ef ef ?_;refine(S.mapUpdate Tryz.underlying104 Tryz.underlying31 rfl rfl rfl rfl ?_);refine ZL ([]) [] ?_;refine ZD ?_;refine Zd ([blk b3 72 (niC x).toArray,blk p 107 #[.bool nd.up,.map (some rb),iv.v,ov.v,.bool (nd.Qf || (Yg x.Qm nd.rk).isSome)]]) [12] (Zra 0 8) (ZY 7 ?_);refine Zw ef (Q3 (pvs:=[(_,_),(_,_)]) [_,_,_,_,_,_,_,_,_,_,_,_,_] Tryz.z72.h Tryz.p72.h ⟨⟨rfl,rfl⟩,⟨rfl,rfl⟩,trivial⟩ rfl) ?_;refine Z1 (i:=8) ef ef ?_;refine(S.buildSlice (pvs:=[(_,_)]) [_,_,_,_,_,_,_,_,_,_,_,_,_] Tryz.underlying105 Tryz.Ua.h rfl rfl ⟨⟨rfl,rfl⟩,trivial⟩ rfl rfl ?_);intro b48;refine Zk [] ?_;refine Z1 (i:=9) ef ef ?_;refine(S.Qu (s:=ov) (1) (otC ⟨{kind:=4,Qm:=x.Qm},SV.nil,[]⟩) Tryz.underlying105 Tryz.Ua.h rfl rfl rfl (Qy (b:=b48) rfl (by unfold maxLen;omega)) (by first|rfl|exact Ql _) (⟨by omega,by omega⟩) rfl ?_);intro ov2 Wf;refine Zk [10,11] (ZY 2 ?_);refine Z1 (i:=12) ef ef ?_;refine(S.store (cs':=[_,_,_,_,_]) Eo.h rfl rfl rfl rfl rfl ?_);refine ZL ([]) [] ?_;refine ZD ?_;refine S.Wj (own ov2 72 13 (os.flatMap otC++otC ⟨{kind:=4,Qm:=x.Qm},SV.nil,[]⟩)) (alls os otB) (Ent.Ah ov2 os {kind:=4,Qm:=x.Qm} _) ?_;obtain⟨m1,m2,_⟩:=Ql8 {place:=x.Qt} b39;rw[m1];refine S.Wj (blk b39 111 (rkC {place:=x.Qt}).toArray) (alls rs roB) (Ent.Hn roB rs ((x.Qm,{place:=x.Qt},b39):Ro) _) ?_;refine S.Z7 p {nd with rk:=Xl x.Qm {place:=x.Qt} nd.rk,out:=nd.out++[otR ⟨{kind:=4,Qm:=x.Qm},SV.nil,[]⟩],Qf:=nd.Qf || (Yg x.Qm nd.rk).isSome} rb iv ov2 (rs++[(x.Qm,{place:=x.Qt},b39)]) (os++[⟨{kind:=4,Qm:=x.Qm},SV.nil,[]⟩]) (hN.say ⟨{kind:=4,Qm:=x.Qm},SV.nil,[]⟩ Wf (by rw[←m2,Rw]) _) ?_;refine S.conv (NI p {nd with rk:=Xl x.Qm {place:=x.Qt} nd.rk,out:=nd.out++[otR ⟨{kind:=4,Qm:=x.Qm},SV.nil,[]⟩],Qf:=nd.Qf || (Yg x.Qm nd.rk).isSome}) (show Ent _ (NI p (Q8 nd x)::_) by rw[hact,hgr];exact Ent.refl _) ?_;exact Zfn ef Zq (rfl)
  ·have Ry:x.kind≠3:=by omega
   refine ZY 5 ?_
   refine Zj ef (fun h2=>?_) (fun h2=>?_)
   ·have hact:=Q34 (nd:=nd) (show x.kind=5 by omega) hgr;refine ZY 8 ?_
    refine Zbb 59 ef (fun hg8_5=>?_) (fun hg8_5=>?_)
    ·refine ZY 8 (ZY 8 (Zy (ZF ef (Zy (S.Yw p #[.bool nd.up,.map (some rb),iv.v,ov.v,.bool true] rfl ?_)))));refine S.Z7 p {nd with Qf:=true} rb iv ov rs os ⟨hN.rk,hN.os,hN.i,hN.o⟩ ?_;rw[←hact];exact Zfn ef Zq (rfl)
    ·refine ZY 8 (ZY 8 (Zy (ZF ef (Zy (S.Yw p #[.bool nd.up,.map (some rb),iv.v,ov.v,.bool true] rfl ?_)))));refine S.Z7 p {nd with Qf:=true} rb iv ov rs os ⟨hN.rk,hN.os,hN.i,hN.o⟩ ?_;rw[←hact];exact Zfn ef Zq (rfl)
   ·have hk5:x.kind≠5:=by omega
    refine ZY 5 ?_
    refine Zj ef (fun h4=>?_) (fun h4=>?_)
    ·have hk:x.kind=6:=by omega
     refine ZY 4 ?_;refine Zv (Q3 (pvs:=[(_,_),(_,_)]) [_,_,_,_,_,_,_,_,_,_,_,_,_] Tryz.z72.h Tryz.p72.h ⟨⟨rfl,rfl⟩,⟨rfl,rfl⟩,trivial⟩ rfl) (Zp (S.alloc Tryz.z72.h rfl ?_));intro b5;refine Zp (Zs ef ef (cs':=[_,_,_,_,_,_,_,_,_,_,_,_,_]) ef (ZY 5 (Zp (Zcp Ze (Qfh (p:=p) (rb:=rb) hN ham) ?_))));obtain⟨j0,hj0⟩:∃j0,j0=Qz nd.rk:=⟨_,rfl⟩;rw[←hj0];refine ZY 7 ?_
     refine Zj ef (fun h5=>?_) (fun h5=>?_)
     ·have Uk:Qz nd.rk≠0:=by omega
      obtain⟨r2,Ca⟩:=L7 Uk;have hact:=Qka (x:=x) hk Uk Ca;rw[←hj0]at Ca hact;obtain⟨i2,q2,c1,c2,c3,c4,_⟩:=S2 (rs:=rs) (id:=j0) (r:=r2) (by rw[Rw];exact Ca);refine ZY 7 ?_;refine Zv (Qj (pt q2) Tryz.underlying104 Tryz.underlying31 Tryz.Qhb.h rfl rfl rfl (by rw[c2];rfl)) (ZY 4 (S.conv (alls rs roB) (Ent.Qh9 c1 _) (ZY 5 ?_)));refine Zd ([blk q2 111 (rkC {r2 with run:=false}).toArray]) [] (Zra 0 10) (ZY 8 (ZY 2 ?_));refine Z1 (i:=10) ef ef ?_;refine(S.store (cs':=[_,_,_,_,_,_,_,_,_,_,_,_,_]) Eo.h rfl rfl rfl rfl rfl ?_);refine Zk [11] (Zy ?_);refine Z1 (i:=12) ef ef ?_;refine(S.store (cs':=[_,_,_,_,_,_,_,_,_,_,_,_,_]) Eo.h rfl rfl rfl rfl rfl ?_);refine Zk [13] (Zy ?_);refine Z1 (i:=14) ef ef ?_;refine(S.store (cs':=[_,_,_,_,_,_,_,_,_,_,_,_,_]) Eo.h rfl rfl rfl rfl rfl ?_);refine Zk [] ?_;refine ZD (S.Xb (roB ((j0,{r2 with run:=false},q2):Ro)) (alls (rs.take i2) roB) (alls (rs.drop (i2+1)) roB) (Ent.Yl roB (x':=(j0,{r2 with run:=false},q2)) c1 _) ?_);refine S.conv (Qk rb .u32 (rs.map roE)) (show Ent _ (Qk rb .u32 ((rs.set i2 (j0,{r2 with run:=false},q2)).map roE)::_) by rw[c4];exact Ent.refl _) (S.Yw b5 (niC {kind:=7,gen:=x.gen,Qm:=j0,W7:=r2.W7,Un:=r2.Un}).toArray rfl ?_);obtain⟨rs9,Qbt⟩:∃rs9,rs9=rs.set i2 (j0,{r2 with run:=false},q2):=⟨_,rfl⟩;obtain⟨x9,hx9⟩:∃x9:Nt,x9={kind:=7,gen:=x.gen,Qm:=j0,W7:=r2.W7,Un:=r2.Un}:=⟨_,rfl⟩;obtain⟨rk9,Qbu⟩:∃rk9,rk9=Xl j0 {r2 with run:=false} nd.rk:=⟨_,rfl⟩;have hrr:rs9.map roR=rk9:=by rw[Qbt,Qbu,←c3,Rw]
      rw[←Qbu,←hx9]at hact;rw[←Qbt,←hx9];refine Zd ([blk b5 72 (niC x9).toArray,blk p 107 #[.bool nd.up,.map (some rb),iv.v,ov.v,.bool nd.Qf]]) [10] (Zra 0 6) (ZY 6 ?_);refine Z1 (i:=6) ef ef ?_;refine(S.buildSlice (pvs:=[(_,_)]) [_,_,_,_,_,_,_,_,_,_,_,_,_] Tryz.underlying105 Tryz.Ua.h rfl rfl ⟨⟨rfl,rfl⟩,trivial⟩ rfl rfl ?_);intro b122;refine Zk [] ?_;refine Z1 (i:=7) ef ef ?_;refine(S.Qu (s:=ov) (1) (otC ⟨x9,SV.nil,[]⟩) Tryz.underlying105 Tryz.Ua.h rfl rfl rfl (Qy (b:=b122) rfl (by unfold maxLen;omega)) (by first|rfl|exact Ql _) (⟨by omega,by omega⟩) rfl ?_);intro ov2 Wf;refine Zk [8,9] (ZY 2 ?_);refine Z1 (i:=10) ef ef ?_;refine(S.store (cs':=[_,_,_,_,_]) Eo.h rfl rfl rfl rfl rfl ?_);refine ZL ([]) [] ?_;refine ZD ?_;refine S.Wj (own ov2 72 13 (os.flatMap otC++otC ⟨x9,SV.nil,[]⟩)) (alls os otB) (Ent.Ah ov2 os x9 _) ?_;refine S.Z7 p {nd with rk:=rk9,out:=nd.out++[otR ⟨x9,SV.nil,[]⟩],Qf:=nd.Qf} rb iv ov2 rs9 (os++[⟨x9,SV.nil,[]⟩]) (hN.say ⟨x9,SV.nil,[]⟩ Wf hrr _) ?_;refine S.conv (NI p {nd with rk:=rk9,out:=nd.out++[otR ⟨x9,SV.nil,[]⟩],Qf:=nd.Qf}) (show Ent _ (NI p (Q8 nd x)::_) by rw[hact];exact Ent.refl _) ?_;exact Zfn ef Zq (rfl)
     ·refine Zy ?_;have hact:=Qev (nd:=nd) hk (show ¬Qz nd.rk≠0 by omega);refine S.Yw b5 (niC {kind:=7,gen:=x.gen}).toArray rfl ?_;obtain⟨rs9,Qbt⟩:∃rs9,rs9=rs:=⟨_,rfl⟩;obtain⟨x9,hx9⟩:∃x9:Nt,x9={kind:=7,gen:=x.gen}:=⟨_,rfl⟩;obtain⟨rk9,Qbu⟩:∃rk9,rk9=nd.rk:=⟨_,rfl⟩;have hrr:rs9.map roR=rk9:=by rw[Qbt,Qbu,Rw]
      have hact:Q8 nd x={nd with rk:=rk9,out:=nd.out++[(x9,[])]}:=by rw[hact,hx9,Qbu]
      rw[←hx9];refine S.Wj (Qk rb .u32 (rs.map roE)) (alls rs roB) (show Ent _ (Qk rb .u32 (rs9.map roE)::alls rs9 roB::_) by rw[Qbt];exact Ent.refl _) ?_;refine Zd ([blk b5 72 (niC x9).toArray,blk p 107 #[.bool nd.up,.map (some rb),iv.v,ov.v,.bool nd.Qf]]) [10] (Zra 0 6) (ZY 6 ?_);refine Z1 (i:=6) ef ef ?_;refine(S.buildSlice (pvs:=[(_,_)]) [_,_,_,_,_,_,_,_,_,_,_,_,_] Tryz.underlying105 Tryz.Ua.h rfl rfl ⟨⟨rfl,rfl⟩,trivial⟩ rfl rfl ?_);intro b122;refine Zk [] ?_;refine Z1 (i:=7) ef ef ?_;refine(S.Qu (s:=ov) (1) (otC ⟨x9,SV.nil,[]⟩) Tryz.underlying105 Tryz.Ua.h rfl rfl rfl (Qy (b:=b122) rfl (by unfold maxLen;omega)) (by first|rfl|exact Ql _) (⟨by omega,by omega⟩) rfl ?_);intro ov2 Wf;refine Zk [8,9] (ZY 2 ?_);refine Z1 (i:=10) ef ef ?_;refine(S.store (cs':=[_,_,_,_,_]) Eo.h rfl rfl rfl rfl rfl ?_);refine ZL ([]) [] ?_;refine ZD ?_;refine S.Wj (own ov2 72 13 (os.flatMap otC++otC ⟨x9,SV.nil,[]⟩)) (alls os otB) (Ent.Ah ov2 os x9 _) ?_;refine S.Z7 p {nd with rk:=rk9,out:=nd.out++[otR ⟨x9,SV.nil,[]⟩],Qf:=nd.Qf} rb iv ov2 rs9 (os++[⟨x9,SV.nil,[]⟩]) (hN.say ⟨x9,SV.nil,[]⟩ Wf hrr _) ?_;refine S.conv (NI p {nd with rk:=rk9,out:=nd.out++[otR ⟨x9,SV.nil,[]⟩],Qf:=nd.Qf}) (show Ent _ (NI p (Q8 nd x)::_) by rw[hact];exact Ent.refl _) ?_;exact Zfn ef Zq (rfl)
    ·have hk6:x.kind≠6:=by omega
     refine ZY 5 ?_
     refine Zj ef (fun h6=>?_) (fun h6=>?_)
     ·have hact:=Qso (nd:=nd) (show x.kind=8 by omega) hgr;refine ZY 8 ?_
      refine Zbb 133 ef (fun hg20_5=>?_) (fun hg20_5=>?_)
      ·refine ZY 8 (ZY 8 (ZY 2 (ZF ef (Zy (S.Yw p #[.bool nd.up,.map (some rb),iv.v,ov.v,.bool true] rfl ?_)))));refine S.Z7 p {nd with Qf:=true} rb iv ov rs os ⟨hN.rk,hN.os,hN.i,hN.o⟩ ?_;rw[←hact];exact Zfn ef Zq (rfl)
      ·refine ZY 8 (ZY 8 (ZY 2 (ZF ef (Zy (S.Yw p #[.bool nd.up,.map (some rb),iv.v,ov.v,.bool true] rfl ?_)))));refine S.Z7 p {nd with Qf:=true} rb iv ov rs os ⟨hN.rk,hN.os,hN.i,hN.o⟩ ?_;rw[←hact];exact Zfn ef Zq (rfl)
     ·have hk8:x.kind≠8:=by omega
      refine ZY 5 ?_
      refine Zj ef (fun h8=>?_) (fun h8=>?_)
      ·have hact:=Qkd (nd:=nd) (show x.kind=10 by omega);refine Zy ?_;refine Zd ([blk b3 72 (niC x).toArray,blk p 107 #[.bool nd.up,.map (some rb),iv.v,ov.v,.bool nd.Qf]]) [6] (Zra 0 6) (ZY 6 ?_);refine Z1 (i:=6) ef ef ?_;refine(S.Jf Tryz.underlying104 Tryz.underlying31 rfl rfl rfl ?_);refine ZL ([]) [] ?_;refine ZD ?_;refine Zd ([blk b3 72 (niC x).toArray,blk p 107 #[.bool nd.up,.map (some rb),iv.v,ov.v,.bool nd.Qf]]) [12] (Zra 0 8) (ZY 7 ?_);refine Zw ef (Q3 (pvs:=[(_,_),(_,_)]) [_,_,_,_,_,_,_,_,_,_,_,_,_] Tryz.z72.h Tryz.p72.h ⟨⟨rfl,rfl⟩,⟨rfl,rfl⟩,trivial⟩ rfl) ?_;refine Z1 (i:=8) ef ef ?_;refine(S.buildSlice (pvs:=[(_,_)]) [_,_,_,_,_,_,_,_,_,_,_,_,_] Tryz.underlying105 Tryz.Ua.h rfl rfl ⟨⟨rfl,rfl⟩,trivial⟩ rfl rfl ?_);intro b189;refine Zk [] ?_;refine Z1 (i:=9) ef ef ?_;refine(S.Qu (s:=ov) (1) (otC ⟨{kind:=11,Qm:=x.Qm},SV.nil,[]⟩) Tryz.underlying105 Tryz.Ua.h rfl rfl rfl (Qy (b:=b189) rfl (by unfold maxLen;omega)) (by first|rfl|exact Ql _) (⟨by omega,by omega⟩) rfl ?_);intro ov2 Wf;refine Zk [10,11] (ZY 2 ?_);refine Z1 (i:=12) ef ef ?_;refine(S.store (cs':=[_,_,_,_,_]) Eo.h rfl rfl rfl rfl rfl ?_);refine ZL ([]) [] ?_;refine ZD ?_;refine S.Wj (own ov2 72 13 (os.flatMap otC++otC ⟨{kind:=11,Qm:=x.Qm},SV.nil,[]⟩)) (alls os otB) (Ent.Ah ov2 os {kind:=11,Qm:=x.Qm} _) ?_;obtain⟨_,_,m3,m4⟩:=Ql8 {place:=0} 0;rw[m3];refine S.Z7 p {nd with rk:=Ha x.Qm nd.rk,out:=nd.out++[otR ⟨{kind:=11,Qm:=x.Qm},SV.nil,[]⟩],Qf:=nd.Qf} rb iv ov2 rs (os++[⟨{kind:=11,Qm:=x.Qm},SV.nil,[]⟩]) (hN.say ⟨{kind:=11,Qm:=x.Qm},SV.nil,[]⟩ Wf (by rw[←Rw,m4]) _) ?_;refine S.conv (NI p {nd with rk:=Ha x.Qm nd.rk,out:=nd.out++[otR ⟨{kind:=11,Qm:=x.Qm},SV.nil,[]⟩],Qf:=nd.Qf}) (show Ent _ (NI p (Q8 nd x)::_) by rw[hact];exact Ent.refl _) ?_;exact Zfn ef Zq (rfl)
      ·refine Zy (S.Z7 p nd rb iv ov rs os hN ?_);refine S.conv (NI p nd) (show Ent _ (NI p (Q8 nd x)::_) by rw[Qex Ry hk5 hk6 hk8 (by omega)];exact Ent.refl _) ?_;exact Zfn ef Zq (rfl)
 ·obtain⟨i,q,k1,J0,k3,k4,k5,k6,k7,k8⟩:=S2 (rs:=rs) (id:=x.Qm) (r:=r) (by rw[Rw];exact hgr);refine Zd0 (Zra 0 8) (ZY 6 ?_);refine Zw ef (Qj (pt q) Tryz.underlying104 Tryz.underlying31 Tryz.Qhb.h rfl rfl rfl (by rw[J0];rfl)) (Zy ?_);refine ZD (ZY 8 (ZY 3 ?_))
  refine Zj ef (fun h1=>?_) (fun h1=>?_)
  ·have hk:x.kind=3:=by omega
   have hact:=Qkb (nd:=nd) hk;rw[hgr]at hact;refine ZY 8 ?_
   refine Zbb 24 ef (fun hg4_5=>?_) (fun hg4_5=>?_)
   ·refine ZY 8 ?_;refine Zd ([blk b3 72 (niC x).toArray,blk p 107 #[.bool nd.up,.map (some rb),iv.v,ov.v,.bool (nd.Qf || (Yg x.Qm nd.rk).isSome)]]) [10] (Zra 0 9) ?_;refine S.Yw p #[.bool nd.up,.map (some rb),iv.v,ov.v,.bool (nd.Qf || (Yg x.Qm nd.rk).isSome)] (by rw[hgr];simp[hg4_5]) (ZY 8 ?_);refine Zw ef (Q3 (pvs:=[(_,_)]) [_,_,_,_,_] Tryz.Qzq.h Tryz.Q1a.h ⟨⟨rfl,rfl⟩,trivial⟩ rfl) ?_;refine Z1 (i:=9) ef ef ?_;refine(S.box (cs:=[_,_,_,_,_]) rfl rfl rfl ?_);intro b39;refine Zk [] ?_;refine Z1 (i:=10) ef ef ?_;refine(S.mapUpdate Tryz.underlying104 Tryz.underlying31 rfl rfl rfl rfl ?_);refine ZL ([]) [] ?_;refine ZD ?_;refine Zd ([blk b3 72 (niC x).toArray,blk p 107 #[.bool nd.up,.map (some rb),iv.v,ov.v,.bool (nd.Qf || (Yg x.Qm nd.rk).isSome)]]) [12] (Zra 0 8) (ZY 7 ?_);refine Zw ef (Q3 (pvs:=[(_,_),(_,_)]) [_,_,_,_,_,_,_,_,_,_,_,_,_] Tryz.z72.h Tryz.p72.h ⟨⟨rfl,rfl⟩,⟨rfl,rfl⟩,trivial⟩ rfl) ?_;refine Z1 (i:=8) ef ef ?_;refine(S.buildSlice (pvs:=[(_,_)]) [_,_,_,_,_,_,_,_,_,_,_,_,_] Tryz.underlying105 Tryz.Ua.h rfl rfl ⟨⟨rfl,rfl⟩,trivial⟩ rfl rfl ?_);intro b48;refine Zk [] ?_;refine Z1 (i:=9) ef ef ?_;refine(S.Qu (s:=ov) (1) (otC ⟨{kind:=4,Qm:=x.Qm},SV.nil,[]⟩) Tryz.underlying105 Tryz.Ua.h rfl rfl rfl (Qy (b:=b48) rfl (by unfold maxLen;omega)) (by first|rfl|exact Ql _) (⟨by omega,by omega⟩) rfl ?_);intro ov2 Wf;refine Zk [10,11] (ZY 2 ?_);refine Z1 (i:=12) ef ef ?_;refine(S.store (cs':=[_,_,_,_,_]) Eo.h rfl rfl rfl rfl rfl ?_);refine ZL ([]) [] ?_;refine ZD ?_;refine S.Wj (own ov2 72 13 (os.flatMap otC++otC ⟨{kind:=4,Qm:=x.Qm},SV.nil,[]⟩)) (alls os otB) (Ent.Ah ov2 os {kind:=4,Qm:=x.Qm} _) ?_;rw[k5 {place:=x.Qt} b39];refine S.Wj (blk b39 111 (rkC {place:=x.Qt}).toArray) (alls rs roB) (Ent.Qgz roB (x':=((x.Qm,{place:=x.Qt},b39):Ro)) k1 _) ?_;refine S.Z7 p {nd with rk:=Xl x.Qm {place:=x.Qt} nd.rk,out:=nd.out++[otR ⟨{kind:=4,Qm:=x.Qm},SV.nil,[]⟩],Qf:=nd.Qf || (Yg x.Qm nd.rk).isSome} rb iv ov2 (rs.set i (x.Qm,{place:=x.Qt},b39)) (os++[⟨{kind:=4,Qm:=x.Qm},SV.nil,[]⟩]) (hN.say ⟨{kind:=4,Qm:=x.Qm},SV.nil,[]⟩ Wf (by rw[←k6,Rw]) _) ?_;refine S.conv (NI p {nd with rk:=Xl x.Qm {place:=x.Qt} nd.rk,out:=nd.out++[otR ⟨{kind:=4,Qm:=x.Qm},SV.nil,[]⟩],Qf:=nd.Qf || (Yg x.Qm nd.rk).isSome}) (show Ent _ (NI p (Q8 nd x)::_) by rw[hact,hgr];exact Ent.refl _) ?_;exact Zfn ef Zq (rfl)
   ·refine ZY 8 ?_;refine Zd ([blk b3 72 (niC x).toArray,blk p 107 #[.bool nd.up,.map (some rb),iv.v,ov.v,.bool (nd.Qf || (Yg x.Qm nd.rk).isSome)]]) [10] (Zra 0 9) ?_;refine S.Yw p #[.bool nd.up,.map (some rb),iv.v,ov.v,.bool (nd.Qf || (Yg x.Qm nd.rk).isSome)] (by rw[hgr];simp[hg4_5]) (ZY 8 ?_);refine Zw ef (Q3 (pvs:=[(_,_)]) [_,_,_,_,_] Tryz.Qzq.h Tryz.Q1a.h ⟨⟨rfl,rfl⟩,trivial⟩ rfl) ?_;refine Z1 (i:=9) ef ef ?_;refine(S.box (cs:=[_,_,_,_,_]) rfl rfl rfl ?_);intro b39;refine Zk [] ?_;refine Z1 (i:=10) ef ef ?_;refine(S.mapUpdate Tryz.underlying104 Tryz.underlying31 rfl rfl rfl rfl ?_);refine ZL ([]) [] ?_;refine ZD ?_;refine Zd ([blk b3 72 (niC x).toArray,blk p 107 #[.bool nd.up,.map (some rb),iv.v,ov.v,.bool (nd.Qf || (Yg x.Qm nd.rk).isSome)]]) [12] (Zra 0 8) (ZY 7 ?_);refine Zw ef (Q3 (pvs:=[(_,_),(_,_)]) [_,_,_,_,_,_,_,_,_,_,_,_,_] Tryz.z72.h Tryz.p72.h ⟨⟨rfl,rfl⟩,⟨rfl,rfl⟩,trivial⟩ rfl) ?_;refine Z1 (i:=8) ef ef ?_;refine(S.buildSlice (pvs:=[(_,_)]) [_,_,_,_,_,_,_,_,_,_,_,_,_] Tryz.underlying105 Tryz.Ua.h rfl rfl ⟨⟨rfl,rfl⟩,trivial⟩ rfl rfl ?_);intro b48;refine Zk [] ?_;refine Z1 (i:=9) ef ef ?_;refine(S.Qu (s:=ov) (1) (otC ⟨{kind:=4,Qm:=x.Qm},SV.nil,[]⟩) Tryz.underlying105 Tryz.Ua.h rfl rfl rfl (Qy (b:=b48) rfl (by unfold maxLen;omega)) (by first|rfl|exact Ql _) (⟨by omega,by omega⟩) rfl ?_);intro ov2 Wf;refine Zk [10,11] (ZY 2 ?_);refine Z1 (i:=12) ef ef ?_;refine(S.store (cs':=[_,_,_,_,_]) Eo.h rfl rfl rfl rfl rfl ?_);refine ZL ([]) [] ?_;refine ZD ?_;refine S.Wj (own ov2 72 13 (os.flatMap otC++otC ⟨{kind:=4,Qm:=x.Qm},SV.nil,[]⟩)) (alls os otB) (Ent.Ah ov2 os {kind:=4,Qm:=x.Qm} _) ?_;rw[k5 {place:=x.Qt} b39];refine S.Wj (blk b39 111 (rkC {place:=x.Qt}).toArray) (alls rs roB) (Ent.Qgz roB (x':=((x.Qm,{place:=x.Qt},b39):Ro)) k1 _) ?_;refine S.Z7 p {nd with rk:=Xl x.Qm {place:=x.Qt} nd.rk,out:=nd.out++[otR ⟨{kind:=4,Qm:=x.Qm},SV.nil,[]⟩],Qf:=nd.Qf || (Yg x.Qm nd.rk).isSome} rb iv ov2 (rs.set i (x.Qm,{place:=x.Qt},b39)) (os++[⟨{kind:=4,Qm:=x.Qm},SV.nil,[]⟩]) (hN.say ⟨{kind:=4,Qm:=x.Qm},SV.nil,[]⟩ Wf (by rw[←k6,Rw]) _) ?_;refine S.conv (NI p {nd with rk:=Xl x.Qm {place:=x.Qt} nd.rk,out:=nd.out++[otR ⟨{kind:=4,Qm:=x.Qm},SV.nil,[]⟩],Qf:=nd.Qf || (Yg x.Qm nd.rk).isSome}) (show Ent _ (NI p (Q8 nd x)::_) by rw[hact,hgr];exact Ent.refl _) ?_;exact Zfn ef Zq (rfl)
  ·have Ry:x.kind≠3:=by omega
   refine ZY 5 ?_
   refine Zj ef (fun h2=>?_) (fun h2=>?_)
   ·have hact:=Qy6 (nd:=nd) (show x.kind=5 by omega) hgr;refine ZY 8 ?_
    refine Zbb 59 ef (fun hg8_5=>?_) (fun hg8_5=>?_)
    ·refine ZY 8 (ZY 6 (S.conv (alls rs roB) (Ent.Qh9 k1 _) (ZY 3 (ZT ef ?_))));refine Zd ([blk b3 72 (niC x).toArray]) [] (Zra 0 8) (ZY 8 ?_);refine Z1 (i:=8) ef ef ?_;refine(S.store (cs':=[_,_,_,_,_]) Eo.h rfl rfl rfl rfl rfl ?_);refine Zk [9,10] (ZY 2 ?_);refine Z1 (i:=11) ef ef ?_;refine(S.store (cs':=[_,_,_,_,_]) Eo.h rfl rfl rfl rfl rfl ?_);refine Zk [12,13] (ZY 2 ?_);refine Z1 (i:=14) ef ef ?_;refine(S.store (cs':=[_,_,_,_,_]) Eo.h rfl rfl rfl rfl rfl ?_);refine Zk [15,16] (ZY 2 ?_);refine Z1 (i:=17) ef ef ?_;refine(S.store (cs':=[_,_,_,_,_]) Eo.h rfl rfl rfl rfl rfl ?_);refine Zk [] ?_;refine ZD (S.Yw p #[.bool nd.up,.map (some rb),iv.v,ov.v,.bool (nd.Qf || decide (Qz nd.rk≠0))] (by simp[hg8_5]) (S.Xb (roB ((x.Qm,{r with run:=true,gen:=x.gen,W7:=0,Un:=0},q):Ro)) (alls (rs.take i) roB) (alls (rs.drop (i+1)) roB) (Ent.Yl roB (x':=(x.Qm,{r with run:=true,gen:=x.gen,W7:=0,Un:=0},q)) k1 _) ?_));refine S.conv (Qk rb .u32 (rs.map roE)) (show Ent _ (Qk rb .u32 ((rs.set i (x.Qm,{r with run:=true,gen:=x.gen,W7:=0,Un:=0},q)).map roE)::_) by rw[k4];exact Ent.refl _) ?_;refine S.Z7 p {nd with Qf:=nd.Qf || decide (Qz nd.rk≠0),rk:=Xl x.Qm {r with run:=true,gen:=x.gen,W7:=0,Un:=0} nd.rk} rb iv ov (rs.set i (x.Qm,{r with run:=true,gen:=x.gen,W7:=0,Un:=0},q)) os ⟨by rw[←k3,Rw],hN.os,hN.i,hN.o⟩ ?_;rw[←hact];exact Zfn ef Zq (rfl)
    ·refine ZY 5 (Zg ef ef ef (Zcp Ze (Qfh (p:=p) (rb:=rb) hN ham) (ZY 8 (S.conv (alls rs roB) (Ent.Qh9 k1 _) (ZY 3 (ZT ef ?_))))));refine Zd ([blk b3 72 (niC x).toArray]) [] (Zra 0 8) (ZY 8 ?_);refine Z1 (i:=8) ef ef ?_;refine(S.store (cs':=[_,_,_,_,_]) Eo.h rfl rfl rfl rfl rfl ?_);refine Zk [9,10] (ZY 2 ?_);refine Z1 (i:=11) ef ef ?_;refine(S.store (cs':=[_,_,_,_,_]) Eo.h rfl rfl rfl rfl rfl ?_);refine Zk [12,13] (ZY 2 ?_);refine Z1 (i:=14) ef ef ?_;refine(S.store (cs':=[_,_,_,_,_]) Eo.h rfl rfl rfl rfl rfl ?_);refine Zk [15,16] (ZY 2 ?_);refine Z1 (i:=17) ef ef ?_;refine(S.store (cs':=[_,_,_,_,_]) Eo.h rfl rfl rfl rfl rfl ?_);refine Zk [] ?_;refine ZD (S.Yw p #[.bool nd.up,.map (some rb),iv.v,ov.v,.bool (nd.Qf || decide (Qz nd.rk≠0))] (by simp[hg8_5]) (S.Xb (roB ((x.Qm,{r with run:=true,gen:=x.gen,W7:=0,Un:=0},q):Ro)) (alls (rs.take i) roB) (alls (rs.drop (i+1)) roB) (Ent.Yl roB (x':=(x.Qm,{r with run:=true,gen:=x.gen,W7:=0,Un:=0},q)) k1 _) ?_));refine S.conv (Qk rb .u32 (rs.map roE)) (show Ent _ (Qk rb .u32 ((rs.set i (x.Qm,{r with run:=true,gen:=x.gen,W7:=0,Un:=0},q)).map roE)::_) by rw[k4];exact Ent.refl _) ?_;refine S.Z7 p {nd with Qf:=nd.Qf || decide (Qz nd.rk≠0),rk:=Xl x.Qm {r with run:=true,gen:=x.gen,W7:=0,Un:=0} nd.rk} rb iv ov (rs.set i (x.Qm,{r with run:=true,gen:=x.gen,W7:=0,Un:=0},q)) os ⟨by rw[←k3,Rw],hN.os,hN.i,hN.o⟩ ?_;rw[←hact];exact Zfn ef Zq (rfl)
   ·have hk5:x.kind≠5:=by omega
    refine ZY 5 ?_
    refine Zj ef (fun h4=>?_) (fun h4=>?_)
    ·have hk:x.kind=6:=by omega
     refine ZY 4 ?_;refine Zv (Q3 (pvs:=[(_,_),(_,_)]) [_,_,_,_,_,_,_,_,_,_,_,_,_] Tryz.z72.h Tryz.p72.h ⟨⟨rfl,rfl⟩,⟨rfl,rfl⟩,trivial⟩ rfl) (Zp (S.alloc Tryz.z72.h rfl ?_));intro b5;refine Zp (Zs ef ef (cs':=[_,_,_,_,_,_,_,_,_,_,_,_,_]) ef (ZY 5 (Zp (Zcp Ze (Qfh (p:=p) (rb:=rb) hN ham) ?_))));obtain⟨j0,hj0⟩:∃j0,j0=Qz nd.rk:=⟨_,rfl⟩;rw[←hj0];refine ZY 7 ?_
     refine Zj ef (fun h5=>?_) (fun h5=>?_)
     ·have Uk:Qz nd.rk≠0:=by omega
      obtain⟨r2,Ca⟩:=L7 Uk;have hact:=Qka (x:=x) hk Uk Ca;rw[←hj0]at Ca hact;obtain⟨i2,q2,c1,c2,c3,c4,_⟩:=S2 (rs:=rs) (id:=j0) (r:=r2) (by rw[Rw];exact Ca);refine ZY 7 ?_;refine Zv (Qj (pt q2) Tryz.underlying104 Tryz.underlying31 Tryz.Qhb.h rfl rfl rfl (by rw[c2];rfl)) (ZY 4 (S.conv (alls rs roB) (Ent.Qh9 c1 _) (ZY 5 ?_)));refine Zd ([blk q2 111 (rkC {r2 with run:=false}).toArray]) [] (Zra 0 10) (ZY 8 (ZY 2 ?_));refine Z1 (i:=10) ef ef ?_;refine(S.store (cs':=[_,_,_,_,_,_,_,_,_,_,_,_,_]) Eo.h rfl rfl rfl rfl rfl ?_);refine Zk [11] (Zy ?_);refine Z1 (i:=12) ef ef ?_;refine(S.store (cs':=[_,_,_,_,_,_,_,_,_,_,_,_,_]) Eo.h rfl rfl rfl rfl rfl ?_);refine Zk [13] (Zy ?_);refine Z1 (i:=14) ef ef ?_;refine(S.store (cs':=[_,_,_,_,_,_,_,_,_,_,_,_,_]) Eo.h rfl rfl rfl rfl rfl ?_);refine Zk [] ?_;refine ZD (S.Xb (roB ((j0,{r2 with run:=false},q2):Ro)) (alls (rs.take i2) roB) (alls (rs.drop (i2+1)) roB) (Ent.Yl roB (x':=(j0,{r2 with run:=false},q2)) c1 _) ?_);refine S.conv (Qk rb .u32 (rs.map roE)) (show Ent _ (Qk rb .u32 ((rs.set i2 (j0,{r2 with run:=false},q2)).map roE)::_) by rw[c4];exact Ent.refl _) (S.Yw b5 (niC {kind:=7,gen:=x.gen,Qm:=j0,W7:=r2.W7,Un:=r2.Un}).toArray rfl ?_);obtain⟨rs9,Qbt⟩:∃rs9,rs9=rs.set i2 (j0,{r2 with run:=false},q2):=⟨_,rfl⟩;obtain⟨x9,hx9⟩:∃x9:Nt,x9={kind:=7,gen:=x.gen,Qm:=j0,W7:=r2.W7,Un:=r2.Un}:=⟨_,rfl⟩;obtain⟨rk9,Qbu⟩:∃rk9,rk9=Xl j0 {r2 with run:=false} nd.rk:=⟨_,rfl⟩;have hrr:rs9.map roR=rk9:=by rw[Qbt,Qbu,←c3,Rw]
      rw[←Qbu,←hx9]at hact;rw[←Qbt,←hx9];refine Zd ([blk b5 72 (niC x9).toArray,blk p 107 #[.bool nd.up,.map (some rb),iv.v,ov.v,.bool nd.Qf]]) [10] (Zra 0 6) (ZY 6 ?_);refine Z1 (i:=6) ef ef ?_;refine(S.buildSlice (pvs:=[(_,_)]) [_,_,_,_,_,_,_,_,_,_,_,_,_] Tryz.underlying105 Tryz.Ua.h rfl rfl ⟨⟨rfl,rfl⟩,trivial⟩ rfl rfl ?_);intro b122;refine Zk [] ?_;refine Z1 (i:=7) ef ef ?_;refine(S.Qu (s:=ov) (1) (otC ⟨x9,SV.nil,[]⟩) Tryz.underlying105 Tryz.Ua.h rfl rfl rfl (Qy (b:=b122) rfl (by unfold maxLen;omega)) (by first|rfl|exact Ql _) (⟨by omega,by omega⟩) rfl ?_);intro ov2 Wf;refine Zk [8,9] (ZY 2 ?_);refine Z1 (i:=10) ef ef ?_;refine(S.store (cs':=[_,_,_,_,_]) Eo.h rfl rfl rfl rfl rfl ?_);refine ZL ([]) [] ?_;refine ZD ?_;refine S.Wj (own ov2 72 13 (os.flatMap otC++otC ⟨x9,SV.nil,[]⟩)) (alls os otB) (Ent.Ah ov2 os x9 _) ?_;refine S.Z7 p {nd with rk:=rk9,out:=nd.out++[otR ⟨x9,SV.nil,[]⟩],Qf:=nd.Qf} rb iv ov2 rs9 (os++[⟨x9,SV.nil,[]⟩]) (hN.say ⟨x9,SV.nil,[]⟩ Wf hrr _) ?_;refine S.conv (NI p {nd with rk:=rk9,out:=nd.out++[otR ⟨x9,SV.nil,[]⟩],Qf:=nd.Qf}) (show Ent _ (NI p (Q8 nd x)::_) by rw[hact];exact Ent.refl _) ?_;exact Zfn ef Zq (rfl)
     ·refine Zy ?_;have hact:=Qev (nd:=nd) hk (show ¬Qz nd.rk≠0 by omega);refine S.Yw b5 (niC {kind:=7,gen:=x.gen}).toArray rfl ?_;obtain⟨rs9,Qbt⟩:∃rs9,rs9=rs:=⟨_,rfl⟩;obtain⟨x9,hx9⟩:∃x9:Nt,x9={kind:=7,gen:=x.gen}:=⟨_,rfl⟩;obtain⟨rk9,Qbu⟩:∃rk9,rk9=nd.rk:=⟨_,rfl⟩;have hrr:rs9.map roR=rk9:=by rw[Qbt,Qbu,Rw]
      have hact:Q8 nd x={nd with rk:=rk9,out:=nd.out++[(x9,[])]}:=by rw[hact,hx9,Qbu]
      rw[←hx9];refine S.Wj (Qk rb .u32 (rs.map roE)) (alls rs roB) (show Ent _ (Qk rb .u32 (rs9.map roE)::alls rs9 roB::_) by rw[Qbt];exact Ent.refl _) ?_;refine Zd ([blk b5 72 (niC x9).toArray,blk p 107 #[.bool nd.up,.map (some rb),iv.v,ov.v,.bool nd.Qf]]) [10] (Zra 0 6) (ZY 6 ?_);refine Z1 (i:=6) ef ef ?_;refine(S.buildSlice (pvs:=[(_,_)]) [_,_,_,_,_,_,_,_,_,_,_,_,_] Tryz.underlying105 Tryz.Ua.h rfl rfl ⟨⟨rfl,rfl⟩,trivial⟩ rfl rfl ?_);intro b122;refine Zk [] ?_;refine Z1 (i:=7) ef ef ?_;refine(S.Qu (s:=ov) (1) (otC ⟨x9,SV.nil,[]⟩) Tryz.underlying105 Tryz.Ua.h rfl rfl rfl (Qy (b:=b122) rfl (by unfold maxLen;omega)) (by first|rfl|exact Ql _) (⟨by omega,by omega⟩) rfl ?_);intro ov2 Wf;refine Zk [8,9] (ZY 2 ?_);refine Z1 (i:=10) ef ef ?_;refine(S.store (cs':=[_,_,_,_,_]) Eo.h rfl rfl rfl rfl rfl ?_);refine ZL ([]) [] ?_;refine ZD ?_;refine S.Wj (own ov2 72 13 (os.flatMap otC++otC ⟨x9,SV.nil,[]⟩)) (alls os otB) (Ent.Ah ov2 os x9 _) ?_;refine S.Z7 p {nd with rk:=rk9,out:=nd.out++[otR ⟨x9,SV.nil,[]⟩],Qf:=nd.Qf} rb iv ov2 rs9 (os++[⟨x9,SV.nil,[]⟩]) (hN.say ⟨x9,SV.nil,[]⟩ Wf hrr _) ?_;refine S.conv (NI p {nd with rk:=rk9,out:=nd.out++[otR ⟨x9,SV.nil,[]⟩],Qf:=nd.Qf}) (show Ent _ (NI p (Q8 nd x)::_) by rw[hact];exact Ent.refl _) ?_;exact Zfn ef Zq (rfl)
    ·have hk6:x.kind≠6:=by omega
     refine ZY 5 ?_
     refine Zj ef (fun h6=>?_) (fun h6=>?_)
     ·have hact:=Qy5 (nd:=nd) (show x.kind=8 by omega) hgr;refine S.conv (alls rs roB) (Ent.Qh9 k1 _) (ZY 8 ?_)
      refine Zbb 133 ef (fun hg20_5=>?_) (fun hg20_5=>?_)
      ·refine ZY 8 (ZY 7 (S.Yw p #[.bool nd.up,.map (some rb),iv.v,ov.v,.bool (nd.Qf || r.run)] (by simp[hg20_5]) (ZY 3 (ZT ef ?_))));refine Zd ([blk b3 72 (niC x).toArray,blk q 111 (rkC r).toArray,blk p 107 #[.bool nd.up,.map (some rb),iv.v,ov.v,.bool (nd.Qf || r.run)]]) [26] (Zra 0 20) (ZY 8 (ZY 8 (ZY 3 ?_)));refine Zw ef (S4 Tryz.it5.h (by rw[Tryz.underlying3];rfl) rfl) ?_;refine Z1 (i:=20) ef ef ?_;refine(S.buildSlice (pvs:=[(_,_),(_,_)]) [_,_] Tryz.underlying22 Tryz.Q16.h rfl rfl ⟨⟨rfl,rfl⟩,⟨rfl,rfl⟩,trivial⟩ rfl rfl ?_);intro b167;refine Zk [21] ?_;refine Zw ef (Q3 (pvs:=[(_,_),(_,_),(_,_),(_,_),(_,_)]) [_,_,_,_,_,_,_,_,_,_,_,_,_] Tryz.z72.h Tryz.p72.h ⟨⟨rfl,rfl⟩,⟨rfl,rfl⟩,⟨rfl,rfl⟩,⟨rfl,rfl⟩,⟨rfl,rfl⟩,trivial⟩ rfl) ?_;refine Z1 (i:=22) ef ef ?_;refine(S.buildSlice (pvs:=[(_,_)]) [_,_,_,_,_,_,_,_,_,_,_,_,_] Tryz.underlying105 Tryz.Ua.h rfl rfl ⟨⟨rfl,rfl⟩,trivial⟩ rfl rfl ?_);intro b169;refine Zk [] ?_;refine Z1 (i:=23) ef ef ?_;refine(S.Qu (s:=ov) (1) (otC ⟨{kind:=9,Qm:=x.Qm,ver:=x.ver,Qt:=r.place},⟨some ⟨b167,0,none⟩,2,2⟩,[(r.place:Int),((x.Qb % 256:Nat):Int)]⟩) Tryz.underlying105 Tryz.Ua.h rfl rfl rfl (Qy (b:=b169) rfl (by unfold maxLen;omega)) (by first|rfl|exact Ql _) (⟨by omega,by omega⟩) rfl ?_);intro ov2 Wf;refine Zk [24,25] (ZY 2 ?_);refine Z1 (i:=26) ef ef ?_;refine(S.store (cs':=[_,_,_,_,_]) Eo.h rfl rfl rfl rfl rfl ?_);refine ZL ([]) [] ?_;refine ZD ?_;rw[Qnh];refine S.conv (blk b167 5 #[.int .u8 (r.place:Int),.int .u8 ((x.Qb % 256:Nat):Int)]) (Ent.Qpy b167 5 1 2 [.int .u8 (r.place:Int),.int .u8 ((x.Qb % 256:Nat):Int)] rfl (by unfold maxLen;omega) _) ?_;refine S.Xb (own ov2 72 13 (os.flatMap otC++otC ⟨{kind:=9,Qm:=x.Qm,ver:=x.ver,Qt:=r.place},⟨some ⟨b167,0,none⟩,2,2⟩,[(r.place:Int),((x.Qb % 256:Nat):Int)]⟩)) (alls os otB) (own ⟨some ⟨b167,0,none⟩,2,2⟩ 5 1 [.int .u8 (r.place:Int),.int .u8 ((x.Qb % 256:Nat):Int)]) (Ent.Qu6 ov2 os ⟨{kind:=9,Qm:=x.Qm,ver:=x.ver,Qt:=r.place},⟨some ⟨b167,0,none⟩,2,2⟩,[(r.place:Int),((x.Qb % 256:Nat):Int)]⟩ _) (S.Xb (roB ((x.Qm,r,q):Ro)) (alls (rs.take i) roB) (alls (rs.drop (i+1)) roB) (Ent.Xc roB k1 _) ?_);refine S.Z7 p {nd with rk:=nd.rk,out:=nd.out++[otR ⟨{kind:=9,Qm:=x.Qm,ver:=x.ver,Qt:=r.place},⟨some ⟨b167,0,none⟩,2,2⟩,[(r.place:Int),((x.Qb % 256:Nat):Int)]⟩],Qf:=nd.Qf || r.run} rb iv ov2 rs (os++[⟨{kind:=9,Qm:=x.Qm,ver:=x.ver,Qt:=r.place},⟨some ⟨b167,0,none⟩,2,2⟩,[(r.place:Int),((x.Qb % 256:Nat):Int)]⟩]) (hN.say _ Wf Rw _) ?_;refine S.conv (NI p {nd with rk:=nd.rk,out:=nd.out++[otR ⟨{kind:=9,Qm:=x.Qm,ver:=x.ver,Qt:=r.place},⟨some ⟨b167,0,none⟩,2,2⟩,[(r.place:Int),((x.Qb % 256:Nat):Int)]⟩],Qf:=nd.Qf || r.run}) (show Ent _ (NI p (Q8 nd x)::_) by rw[hact];exact Ent.refl _) ?_;exact Zfn ef Zq (rfl)
      ·refine ZY 8 (ZY 7 (S.Yw p #[.bool nd.up,.map (some rb),iv.v,ov.v,.bool (nd.Qf || r.run)] (by simp[hg20_5]) (ZY 3 (ZT ef ?_))));refine Zd ([blk b3 72 (niC x).toArray,blk q 111 (rkC r).toArray,blk p 107 #[.bool nd.up,.map (some rb),iv.v,ov.v,.bool (nd.Qf || r.run)]]) [26] (Zra 0 20) (ZY 8 (ZY 8 (ZY 3 ?_)));refine Zw ef (S4 Tryz.it5.h (by rw[Tryz.underlying3];rfl) rfl) ?_;refine Z1 (i:=20) ef ef ?_;refine(S.buildSlice (pvs:=[(_,_),(_,_)]) [_,_] Tryz.underlying22 Tryz.Q16.h rfl rfl ⟨⟨rfl,rfl⟩,⟨rfl,rfl⟩,trivial⟩ rfl rfl ?_);intro b167;refine Zk [21] ?_;refine Zw ef (Q3 (pvs:=[(_,_),(_,_),(_,_),(_,_),(_,_)]) [_,_,_,_,_,_,_,_,_,_,_,_,_] Tryz.z72.h Tryz.p72.h ⟨⟨rfl,rfl⟩,⟨rfl,rfl⟩,⟨rfl,rfl⟩,⟨rfl,rfl⟩,⟨rfl,rfl⟩,trivial⟩ rfl) ?_;refine Z1 (i:=22) ef ef ?_;refine(S.buildSlice (pvs:=[(_,_)]) [_,_,_,_,_,_,_,_,_,_,_,_,_] Tryz.underlying105 Tryz.Ua.h rfl rfl ⟨⟨rfl,rfl⟩,trivial⟩ rfl rfl ?_);intro b169;refine Zk [] ?_;refine Z1 (i:=23) ef ef ?_;refine(S.Qu (s:=ov) (1) (otC ⟨{kind:=9,Qm:=x.Qm,ver:=x.ver,Qt:=r.place},⟨some ⟨b167,0,none⟩,2,2⟩,[(r.place:Int),((x.Qb % 256:Nat):Int)]⟩) Tryz.underlying105 Tryz.Ua.h rfl rfl rfl (Qy (b:=b169) rfl (by unfold maxLen;omega)) (by first|rfl|exact Ql _) (⟨by omega,by omega⟩) rfl ?_);intro ov2 Wf;refine Zk [24,25] (ZY 2 ?_);refine Z1 (i:=26) ef ef ?_;refine(S.store (cs':=[_,_,_,_,_]) Eo.h rfl rfl rfl rfl rfl ?_);refine ZL ([]) [] ?_;refine ZD ?_;rw[Qnh];refine S.conv (blk b167 5 #[.int .u8 (r.place:Int),.int .u8 ((x.Qb % 256:Nat):Int)]) (Ent.Qpy b167 5 1 2 [.int .u8 (r.place:Int),.int .u8 ((x.Qb % 256:Nat):Int)] rfl (by unfold maxLen;omega) _) ?_;refine S.Xb (own ov2 72 13 (os.flatMap otC++otC ⟨{kind:=9,Qm:=x.Qm,ver:=x.ver,Qt:=r.place},⟨some ⟨b167,0,none⟩,2,2⟩,[(r.place:Int),((x.Qb % 256:Nat):Int)]⟩)) (alls os otB) (own ⟨some ⟨b167,0,none⟩,2,2⟩ 5 1 [.int .u8 (r.place:Int),.int .u8 ((x.Qb % 256:Nat):Int)]) (Ent.Qu6 ov2 os ⟨{kind:=9,Qm:=x.Qm,ver:=x.ver,Qt:=r.place},⟨some ⟨b167,0,none⟩,2,2⟩,[(r.place:Int),((x.Qb % 256:Nat):Int)]⟩ _) (S.Xb (roB ((x.Qm,r,q):Ro)) (alls (rs.take i) roB) (alls (rs.drop (i+1)) roB) (Ent.Xc roB k1 _) ?_);refine S.Z7 p {nd with rk:=nd.rk,out:=nd.out++[otR ⟨{kind:=9,Qm:=x.Qm,ver:=x.ver,Qt:=r.place},⟨some ⟨b167,0,none⟩,2,2⟩,[(r.place:Int),((x.Qb % 256:Nat):Int)]⟩],Qf:=nd.Qf || r.run} rb iv ov2 rs (os++[⟨{kind:=9,Qm:=x.Qm,ver:=x.ver,Qt:=r.place},⟨some ⟨b167,0,none⟩,2,2⟩,[(r.place:Int),((x.Qb % 256:Nat):Int)]⟩]) (hN.say _ Wf Rw _) ?_;refine S.conv (NI p {nd with rk:=nd.rk,out:=nd.out++[otR ⟨{kind:=9,Qm:=x.Qm,ver:=x.ver,Qt:=r.place},⟨some ⟨b167,0,none⟩,2,2⟩,[(r.place:Int),((x.Qb % 256:Nat):Int)]⟩],Qf:=nd.Qf || r.run}) (show Ent _ (NI p (Q8 nd x)::_) by rw[hact];exact Ent.refl _) ?_;exact Zfn ef Zq (rfl)
     ·have hk8:x.kind≠8:=by omega
      refine ZY 5 ?_
      refine Zj ef (fun h8=>?_) (fun h8=>?_)
      ·have hact:=Qkd (nd:=nd) (show x.kind=10 by omega);refine Zy ?_;refine Zd ([blk b3 72 (niC x).toArray,blk p 107 #[.bool nd.up,.map (some rb),iv.v,ov.v,.bool nd.Qf]]) [6] (Zra 0 6) (ZY 6 ?_);refine Z1 (i:=6) ef ef ?_;refine(S.Jf Tryz.underlying104 Tryz.underlying31 rfl rfl rfl ?_);refine ZL ([]) [] ?_;refine ZD ?_;refine Zd ([blk b3 72 (niC x).toArray,blk p 107 #[.bool nd.up,.map (some rb),iv.v,ov.v,.bool nd.Qf]]) [12] (Zra 0 8) (ZY 7 ?_);refine Zw ef (Q3 (pvs:=[(_,_),(_,_)]) [_,_,_,_,_,_,_,_,_,_,_,_,_] Tryz.z72.h Tryz.p72.h ⟨⟨rfl,rfl⟩,⟨rfl,rfl⟩,trivial⟩ rfl) ?_;refine Z1 (i:=8) ef ef ?_;refine(S.buildSlice (pvs:=[(_,_)]) [_,_,_,_,_,_,_,_,_,_,_,_,_] Tryz.underlying105 Tryz.Ua.h rfl rfl ⟨⟨rfl,rfl⟩,trivial⟩ rfl rfl ?_);intro b189;refine Zk [] ?_;refine Z1 (i:=9) ef ef ?_;refine(S.Qu (s:=ov) (1) (otC ⟨{kind:=11,Qm:=x.Qm},SV.nil,[]⟩) Tryz.underlying105 Tryz.Ua.h rfl rfl rfl (Qy (b:=b189) rfl (by unfold maxLen;omega)) (by first|rfl|exact Ql _) (⟨by omega,by omega⟩) rfl ?_);intro ov2 Wf;refine Zk [10,11] (ZY 2 ?_);refine Z1 (i:=12) ef ef ?_;refine(S.store (cs':=[_,_,_,_,_]) Eo.h rfl rfl rfl rfl rfl ?_);refine ZL ([]) [] ?_;refine ZD ?_;refine S.Wj (own ov2 72 13 (os.flatMap otC++otC ⟨{kind:=11,Qm:=x.Qm},SV.nil,[]⟩)) (alls os otB) (Ent.Ah ov2 os {kind:=11,Qm:=x.Qm} _) ?_;refine S.conv (alls rs roB) (show Ent _ (alls (rs.eraseIdx i) roB::_) from ((Ent.Qh9 k1 _).trans ((Ent.drop _ _).trans (Ent.Gz roB _ _ _))).trans (by rw[List.eraseIdx_eq_take_drop_succ];exact Ent.refl _)) ?_;rw[k7];refine S.Z7 p {nd with rk:=Ha x.Qm nd.rk,out:=nd.out++[otR ⟨{kind:=11,Qm:=x.Qm},SV.nil,[]⟩],Qf:=nd.Qf} rb iv ov2 (rs.eraseIdx i) (os++[⟨{kind:=11,Qm:=x.Qm},SV.nil,[]⟩]) (hN.say ⟨{kind:=11,Qm:=x.Qm},SV.nil,[]⟩ Wf (by rw[←Rw,k8]) _) ?_;refine S.conv (NI p {nd with rk:=Ha x.Qm nd.rk,out:=nd.out++[otR ⟨{kind:=11,Qm:=x.Qm},SV.nil,[]⟩],Qf:=nd.Qf}) (show Ent _ (NI p (Q8 nd x)::_) by rw[hact];exact Ent.refl _) ?_;exact Zfn ef Zq (rfl)
      ·refine Zy (S.Z7 p nd rb iv ov rs os hN ?_);refine S.conv (NI p nd) (show Ent _ (NI p (Q8 nd x)::_) by rw[Qex Ry hk5 hk6 hk8 (by omega)];exact Ent.refl _) ?_;exact Zfn ef Zq (rfl)
def Gr(m:Mx):Nat→Mx
 | 0=>m
 | i+1=>(Go.Proofs.YtdackcibfkkniaaGreatDoor.upR (Gr m i) i false).2
theorem Qb9{m:Mx}(h:Xk m):∀i,i≤m.N→Xk (Gr m i)∧(Gr m i).R=m.R∧(Gr m i).N=m.N∧(Gr m i).js=m.js∧∀q,(Gr m i).up.getLsbD q=true→i≤q∧m.up.getLsbD q=true
 | 0,_=>⟨h,rfl,rfl,rfl,fun q hq=>⟨Nat.zero_le _,hq⟩⟩
 | i+1,hi=>by
  obtain⟨h1,h2,h3,h4,h5⟩:=Qb9 h i (by omega);have hn:V8 (Gr m i) (i:Int)=true:=Ws.2 ⟨by omega,by rw[h3];omega⟩;have hu:Gr m (i+1)=(Gr m i).J1 i false:=by simp[Gr,Go.Proofs.YtdackcibfkkniaaGreatDoor.upR,hn]
  rw[hu];refine⟨h1.J1 (by rw[h3];omega) false,h2,h3,h4,fun q hq=>?_⟩;simp only[Mx.J1]at hq;rw[if_neg (by decide),BitVec.getLsbD_and,Bool.and_eq_true,BitVec.getLsbD_not,Bool.and_eq_true,BitVec.getLsbD_twoPow]at hq;obtain⟨q1,q2,q3⟩:=hq;obtain⟨q4,q5⟩:=h5 q q1;refine⟨?_,q5⟩;have:i≠q:=fun e=>by subst e;simp at q3;simp at q2;omega
  omega
theorem Qel{R N:Nat}(h:Xk (mx0 R N)):Gr (mx0 R N) N={mx0 R N with up:=0#16}:=by
 obtain⟨h1,h2,h3,h4,h5⟩:=Qb9 h N (Nat.le_refl _)
 have hup:(Gr (mx0 R N) N).up=0#16:=BitVec.eq_of_getLsbD_eq fun q _=>by
  cases hq:(Gr (mx0 R N) N).up.getLsbD q with
  | false=>simp
  | true=>
   have:=h1.up q hq;rw[h3]at this;have:=(h5 q hq).1;have:q<N:=by assumption
   omega
 cases hm:Gr (mx0 R N) N with
 | mk a b c d=>
  rw[hm]at h2 h3 h4 hup;simp only at h2 h3 h4 hup;rw[h2,h3,h4,hup]
theorem Qwl(Γ:List Assn):Ent Γ (imgs SV.nil []::Γ):=by
 have h:Ent Γ (own SV.nil 60 4 (([]:List Ig).flatMap igC)::alls ([]:List Ig) igB::Γ):=(Ent.Jv igB Γ).trans (Ent.Ye 60 4);exact h.trans ((Ent.pack [_,_] Γ).trans (Ent.W9 Γ fun _ s=>⟨[],rfl,s⟩))
theorem Qos{N R Q G hold:Nat}(h:Xk (mx0 R N))(q1:1≤Q)(q2:Q≤1000)(g1:1≤G)(g2:G≤1000):Q7 (Sb N R Q G hold):=by
 have hd:=Qel h;have:=(Qb9 h N (Nat.le_refl _)).1;rw[hd]at this;exact⟨rfl,rfl,this,List.Pairwise.nil,fun x hx=>(by cases hx),Nat.zero_le _,q1,q2,g1,g2,Nat.zero_le _,Nat.zero_le _,Nat.zero_le _,fun d hd=>(by cases hd)⟩
theorem Q9n(N R Q G hold:Nat)(P2:1≤R)(Sl:R≤8)(hN1:1≤N)(C1:N≤16)(hQ1:1≤Q)(hQ2:Q≤1000)(hG1:1≤G)(hG2:G≤1000) :
  Spec Tryz.prog 11 [.agg #[.int .i64 (N:Int),.int .i64 (R:Int),.int .i64 (Q:Int),.int .i64 (G:Int)],.int .u32 (hold:Int)] [] fun Γ v Θ=>∃b ps,v=.tuple #[pt b,.int .i64 0]∧Θ=BP b (Sb N R Q G hold) ps::Γ:=by
 have hm0:=Qf1 P2 Sl hN1 C1;refine Zbd Tryz.func11 rfl Tryz.ntmps11 fun w0 Γ=>Zsh (ZY 2 (Zp (S.box (cs:=[_,_,_,_]) rfl rfl rfl ?_)));intro b2;refine ZY 8 (Zy (Zp (Zc1 Ze (Go.Proofs.YtdackcibfkkniaaGreatDoor.Zc5 R N P2 Sl hN1 C1) ?_)));rintro v Θ ⟨mb,rfl,rfl⟩;refine ZY 8 (ZY 8 (Zy (Zu 24 false ef ((decide_eq_false (by omega))) (ZY 5 (Zu 29 false ef ((decide_eq_false (by omega))) (ZY 5 (Zu 34 false ef ((decide_eq_false (by omega))) (ZY 5 ?_))))))))
 refine Zj ef (fun h1=>?_) (fun h1=>?_)
 ·exact absurd h1 (by omega)
 ·refine ZY 8 (Zy ?_);refine Zl (fun q ρ' Γ'=>∃(i:Nat) (mm:Mx),q=N-i∧i≤N∧mm=Gr (mx0 R N) i∧ρ'=[(1,.int .u32 (hold:Int)),(2,pt b2),(6,pt mb),(40,.int .i64 (N:Int)),(41,.int .i64 (i:Int))]∧Γ'=blk b2 25 #[.int .i64 (N:Int),.int .i64 (R:Int),.int .i64 (Q:Int),.int .i64 (G:Int)]::MI mb mm::Γ) (m:=_) (⟨0,mx0 R N,rfl,by omega,rfl,rfl,rfl⟩) ?_;rintro q ρ' Γ' ⟨i,mm,hq,hi,hmm,rfl,rfl⟩;refine ZY 5 ?_
  refine Zj ef (fun h2=>?_) (fun h2=>?_)
  ·refine ZY 8 (ZY 3 (Zp (Zcp Ze (Go.Proofs.YtdackcibfkkniaaGreatDoor.Qsr mb mm i false) (ZY 2 (Zv (Za ef ef) (ZY 2 ?_))))));exact ZX (q-1) (⟨i+1,(Go.Proofs.YtdackcibfkkniaaGreatDoor.upR mm i false).2,by omega,by omega,by rw[hmm];rfl,rfl,rfl⟩) (by omega)
  ·obtain rfl:i=N:=by omega
   rw[Qel hm0]at hmm;refine ZY 5 (Zp (S.makeMap .i64 rfl ?_));intro b50;refine Zp (S.makeMap .u32 rfl ?_);intro b51;refine Zy ?_;refine Zv (Q3 (pvs:=[(_,_),(_,_),(_,_),(_,_),(_,_),(_,_)]) [_,_,_,_,_,_,_,_,_,_,_,_,_,_,_,_,_,_] Tryz.z84.h Tryz.p84.h ⟨⟨rfl,rfl⟩,⟨rfl,rfl⟩,⟨rfl,rfl⟩,⟨rfl,rfl⟩,⟨rfl,rfl⟩,⟨rfl,rfl⟩,trivial⟩ rfl) (Zp (S.box (cs:=[_,_,_,_,_,_,_,_,_,_,_,_,_,_,_,_,_,_]) rfl rfl rfl ?_));intro b54;refine ZY 4 ?_;refine S.conv (Qk b50 .i64 []) (show Ent _ (Qk b50 .i64 (Xy [])::_) from Ent.refl _) ?_;refine S.Qh (Ent.Jv (jI fun _=>0) _) ?_;refine S.Qh (show Ent _ (own SV.nil 97 14 (([]:List Od).flatMap odC)::_) from Ent.Ye 97 14) ?_;refine S.Qh (show Ent _ (own SV.nil 31 1 (Q9 [])::_) from Ent.Ye 31 1) ?_;refine S.Qh (show Ent _ (own SV.nil 31 1 (Q9 [])::_) from Ent.Ye 31 1) (S.Qh (Qwl _) (S.Qh (Ent.Pg _) ?_));refine S.conv (MI mb mm) (show Ent _ (MI mb (Sb i R Q G hold).m::_) by rw[hmm];exact Ent.refl _) ?_;refine S.sub (blk b54 84 #[.int .i64 (i:Int),.int .i64 (R:Int),.int .i64 (Q:Int),.int .i64 (G:Int),.int .u32 (hold:Int),.int .u32 0,.map (some b50),.map (some b51),pt mb,.slice none 0 0,.slice none 0 0,.slice none 0 0,.int .u32 0,.int .i64 (-1),.slice none 0 0,.int .u32 0,.map none,.bool false]::Qk b50 .i64 (Xy [])::Qk b51 .u32 []::alls [] (jI fun _=>0)::MI mb (Sb i R Q G hold).m::own SV.nil 97 14 (([]:List Od).flatMap odC)::imgs SV.nil []::own SV.nil 31 1 (Q9 [])::own SV.nil 31 1 (Q9 [])::Xz none none::Γ) ?_;refine S.Qh (show Ent _ (BP b54 (Sb i R Q G hold) (fun _=>0)::Γ) from Ent.bp (b:=b54) (st:=Sb i R Q G hold) (ps:=fun _=>0) (ub:=b50) (jb:=b51) (mb:=mb) (ov:=SV.nil) (iv:=SV.nil) (dv:=SV.nil) (mv:=SV.nil) (sb:=none) (l:=[]) ⟨Qos hm0 hQ1 hQ2 hG1 hG2,List.Perm.refl _,rfl,rfl,rfl,rfl,rfl⟩ Γ) ?_;exact Zf ef Zq (⟨b54,fun _=>0,rfl,rfl⟩)
def Se(st:Br)(i:Im):Bool:=match Qg st.js i.Qm with
 | none=>false
 | some x=>match x.Yt with
  | none=>false
  | some s=>decide (s.ver=i.ver)
theorem Qbr(st:Br):Wa st=(st.Qe.filter (Se st),{st with Qe:=[]}):=rfl
theorem Qrk{st:Br}{i:Im}(h:Qg st.js i.Qm=none):Se st i=false:=by rw[Se,h]
theorem Qwm{st:Br}{i:Im}{x:Bj}(h:Qg st.js i.Qm=some x)(h2:x.Yt=none):Se st i=false:=by rw[Se,h];dsimp only;rw[h2]
theorem Qrj{st:Br}{i:Im}{x:Bj}{s:Sv}(h:Qg st.js i.Qm=some x)(h2:x.Yt=some s):Se st i=decide (s.ver=i.ver):=by rw[Se,h];dsimp only;rw[h2]
theorem Fj{α:Type}{p:α→Bool}{l:List α}{i:Nat}{x:α}(hx:l[i]?=some x)(b:Bool)(h:p x=b):(l.take (i+1)).filter p=(l.take i).filter p++if b then [x] else []:=by
 rw[List.take_add_one,hx,List.filter_append];cases b <;> simp[h]
abbrev bNI(b:Nat)(st:Br)(ps:Nat→Nat)(ub jb mb:Nat)(ov iv dv mv:SV)(sb:Option Nat)(l:List (Int×Value))(Γ:List Assn):List Assn:=
 blk b 84 (bC st ub jb mb ov iv dv mv sb).toArray::Qk ub .i64 (Xy st.up)::Qk jb .u32 l::alls st.js (jI ps)::MI mb st.m::own ov 97 14 (st.Qa.flatMap odC)::own dv 31 1 (Q9 st.done)::own mv 31 1 (Q9 st.members)::Xz sb st.stops::Γ
set_option maxHeartbeats 1000000 in
theorem Qzf(b:Nat)(st:Br)(ps:Nat→Nat)(hil:st.Qe.length≤900000):Spec Tryz.prog 31 [pt b] [BP b st ps] fun Γ v Θ=>∃u:SV,v=u.v∧u.n=(Wa st).1.length∧Θ=imgs u (Wa st).1::BP b (Wa st).2 ps::Γ:=by
 rw[Qbr];refine Spec.Us fun hok=>?_;refine Zbd Tryz.func31 rfl Tryz.ntmps31 fun w0 Γ=>Zsh ?_;refine S.Xx b st ps fun ub jb mb ov iv dv mv sb l hF=>?_;refine S.Eh iv st.Qe fun os hos=>?_;have hol:os.length=st.Qe.length:=by rw[←hos,List.length_map]
 have hin:iv.n=os.length:=by rw[hol];exact hF.im
 refine S.Yf iv fun Pz Gq Si=>?_;have hmx:maxLen≤9223372036854775807:=by unfold maxLen;omega
 refine ZY 8 (ZY 2 (ZF ef (ZY 8 ?_)));refine S.Qh (show Ent _ (own SV.nil 60 4 (([]:List Ig).flatMap igC)::_) from Ent.Ye 60 4) (S.Qh (Ent.Jv igB _) (ZY 8 ?_));refine Zl (fun fz ρ' Γ'=>∃(e:Nat) (rs us:List Ig) (u:SV),fz=os.length-e∧e≤os.length∧rs=os.drop e∧us.map (·.2)=(st.Qe.take e).filter (Se st)∧us.length≤e∧u.n=us.length∧ρ'=[(0,pt b),(3,u.v),(12,iv.v),(13,.int .i64 (iv.n:Int)),(14,.int .i64 (e:Int))]∧Γ'=own iv 60 4 (os.flatMap igC)::alls rs igB::own u 60 4 (us.flatMap igC)::alls us igB::bNI b st ps ub jb mb ov iv dv mv sb l Γ) (m:=_) (⟨0,os,[],SV.nil,rfl,by omega,rfl,rfl,by simp,rfl,rfl,rfl⟩) ?_;rintro fz ρ' Γ' ⟨e,rs,us,u,hq,he,hrs,hus,hul,hun,rfl,rfl⟩;refine ZY 5 ?_
 refine Zj ef (fun h2=>?_) (fun h2=>?_)
 ·refine S.Qp iv (by omega) fun ib io hia _ _ _=>?_;obtain⟨o,ho⟩:=Yv (show e<os.length by omega)
  have hod:os.drop e=o::os.drop (e+1):=by
   have Ao:=List.getElem?_eq_some_iff.1 ho;rw[List.drop_eq_getElem_cons Ao.1,Ao.2]
  have hoi:st.Qe[e]?=some o.2:=by rw[←hos,List.getElem?_map,ho];rfl
  rw[hod]at hrs;subst hrs;refine S.conv (alls (o::os.drop (e+1)) igB) (Ent.Gx igB o (os.drop (e+1)) _) (ZY 5 (Zv (Zx (e) ef (hia) ef (by omega)) ?_));refine Zv (X4 (iv) (e*4) [_,_,_,_] Eo.h rfl hia (by first|rfl|exact Nat.add_assoc _ _ _|omega) rfl (Y8 (enc:=igC) (sz:=4) (fun _=>rfl) ho)) (Zp (S.alloc Tryz.z60.h rfl ?_));intro b5;refine Zp (Zs ef ef (cs':=[_,_,_,_]) ef (ZY 2 ?_))
  rcases Hi:Qg st.js o.2.Qm with _|x
  ·have J0:Q1 (o.2.Qm:Int) l=none:=by rw[Wn hok.Yz hF.perm,Hi];rfl
   have Hc:us.map (·.2)=(st.Qe.take (e+1)).filter (Se st):=by rw[Fj hoi false (Qrk Hi),hus];simp
   refine Zd0 (Zra 0 8) (ZY 6 ?_);refine Zw ef (Qj (.pointer none) Tryz.underlying82 Tryz.underlying31 Tryz.Ud.h rfl rfl rfl (by rw[J0];rfl)) (Zy ?_);refine ZD (Zy ?_);refine Zd ([blk b5 60 (igC o).toArray]) [] [0,1,2] (ZY 3 ?_);refine Zr (Zra 3 19) (ZY 8 (ZY 8 (ZY 3 ?_)));refine ZD (ZY 3 (Zv (Za ef ef) (ZY 2 ?_)));first|exact ZX (fz-1) ⟨e+1,os.drop (e+1),us++[o],u2,by omega,by omega,rfl,Hc,by rw[List.length_append,List.length_singleton];omega,by rw[List.length_append,List.length_singleton];omega,rfl,rfl⟩ (by omega)|exact ZX (fz-1) ⟨e+1,os.drop (e+1),us,u,by omega,by omega,rfl,Hc,by omega,hun,rfl,rfl⟩ (by omega)
  ·obtain⟨Js,K0⟩:=Qd Hi;have J0:Q1 (o.2.Qm:Int) l=some (pt (ps x.id)):=by rw[Wn hok.Yz hF.perm,Hi];rfl
   obtain⟨i,hi,_,_⟩:=Bt hok.Yz Hi;refine Zd0 (Zra 0 8) (ZY 6 ?_);refine Zw ef (Qj (pt (ps x.id)) Tryz.underlying82 Tryz.underlying31 Tryz.Ud.h rfl rfl rfl (by rw[J0];rfl)) (Zy ?_);refine ZD (Zy (S.conv (alls st.js (jI ps)) (Ent.Wp (jI ps) hi _) ?_));refine S.Qgc (ps x.id) x fun av lb db rb qb ha hlb hdb hrb hqb=>?_
   rcases hs:x.Yt with _|s
   ·have hk:=Qwm Hi hs;have Hc:us.map (·.2)=(st.Qe.take (e+1)).filter (Se st):=by rw[Fj hoi false hk,hus];simp
    obtain rfl:qb=none:=by rw[hs]at hqb;cases qb with|none=>rfl|some q=>cases hqb
    refine Zd ([blk b5 60 (igC o).toArray,blk (ps x.id) 90 (bjC x av lb db rb none).toArray]) [] [0,1,2] (ZY 3 ?_);refine Zr (Zra 3 7) (ZY 7 ?_);refine Zr (Zra 10 12) (ZY 8 (ZY 4 ?_));refine ZD (ZY 3 ?_);refine S.conv (Ue none x.id none) (show Ent _ (Ue none x.id x.Yt::_) by rw[hs];exact Ent.refl _) ?_;refine S.N8 (ps x.id) x av lb db rb none ha hlb hdb hrb (by rw[hs];rfl) (S.Xb (JI (ps x.id) x) (alls (st.js.take i) (jI ps)) (alls (st.js.drop (i+1)) (jI ps)) (Ent.Xc (jI ps) hi _) (Zv (Za ef ef) (ZY 2 ?_)));first|exact ZX (fz-1) ⟨e+1,os.drop (e+1),us++[o],u2,by omega,by omega,rfl,Hc,by rw[List.length_append,List.length_singleton];omega,by rw[List.length_append,List.length_singleton];omega,rfl,rfl⟩ (by omega)|exact ZX (fz-1) ⟨e+1,os.drop (e+1),us,u,by omega,by omega,rfl,Hc,by omega,hun,rfl,rfl⟩ (by omega)
   ·have hk:=Qrj Hi hs;obtain⟨q,rfl⟩:∃q,qb=some q:=by rw[hs]at hqb;cases qb with|none=>cases hqb|some q=>exact⟨q,rfl⟩
    refine S.Qfe q x.id s fun hb sv=>?_;refine Zd ([blk b5 60 (igC o).toArray,blk (ps x.id) 90 (bjC x av lb db rb (some q)).toArray,blk q 131 #[.int .u32 (x.id:Int),.int .u32 (s.ver:Int),.int .i64 (s.Qb:Int),sv.v,.map (some hb),.bool s.told]]) [] [0,1,2] (ZY 3 ?_);refine Zr (Zra 3 7) (ZY 7 ?_);refine Zr (Zra 10 12) (ZY 8 (ZY 4 ?_));refine ZD ?_
    refine Zj ef (fun h3=>?_) (fun h3=>?_)
    ·have Hc:(us++[o]).map (·.2)=(st.Qe.take (e+1)).filter (Se st):=by rw[Fj hoi true (by rw[hk];exact decide_eq_true (by omega)),List.map_append,hus];rfl
     refine ZY 3 ?_;refine Zp (S.buildSlice (pvs:=[(_,_)]) [_,_,_,_] Tryz.underlying51 Tryz.Qja.h rfl rfl ⟨⟨rfl,rfl⟩,trivial⟩ rfl rfl ?_);intro b49;refine Zp (S.Qu (s:=u) (1) (igC o) Tryz.underlying51 Tryz.Qja.h rfl rfl rfl (Qy (b:=b49) rfl (by unfold maxLen;omega)) (by first|rfl|exact Ql _) (⟨by omega,by omega⟩) rfl ?_);intro u2 hu2;rw[Xg igC us o];refine S.Wj (igB o) (alls us igB) (Ent.Hn igB us o _) (ZY 3 (S.H2 q hb sv x.id s ?_));refine S.conv (Ue (some q) x.id (some s)) (show Ent _ (Ue (some q) x.id x.Yt::_) by rw[hs];exact Ent.refl _) ?_;refine S.N8 (ps x.id) x av lb db rb (some q) ha hlb hdb hrb (by rw[hs];rfl) (S.Xb (JI (ps x.id) x) (alls (st.js.take i) (jI ps)) (alls (st.js.drop (i+1)) (jI ps)) (Ent.Xc (jI ps) hi _) (Zv (Za ef ef) (ZY 2 ?_)));first|exact ZX (fz-1) ⟨e+1,os.drop (e+1),us++[o],u2,by omega,by omega,rfl,Hc,by rw[List.length_append,List.length_singleton];omega,by rw[List.length_append,List.length_singleton];omega,rfl,rfl⟩ (by omega)|exact ZX (fz-1) ⟨e+1,os.drop (e+1),us,u,by omega,by omega,rfl,Hc,by omega,hun,rfl,rfl⟩ (by omega)
    ·have Hc:us.map (·.2)=(st.Qe.take (e+1)).filter (Se st):=by rw[Fj hoi false (by rw[hk];exact decide_eq_false (by omega)),hus];simp
     refine ZY 2 (S.H2 q hb sv x.id s ?_);refine S.conv (Ue (some q) x.id (some s)) (show Ent _ (Ue (some q) x.id x.Yt::_) by rw[hs];exact Ent.refl _) ?_;refine S.N8 (ps x.id) x av lb db rb (some q) ha hlb hdb hrb (by rw[hs];rfl) (S.Xb (JI (ps x.id) x) (alls (st.js.take i) (jI ps)) (alls (st.js.drop (i+1)) (jI ps)) (Ent.Xc (jI ps) hi _) (Zv (Za ef ef) (ZY 2 ?_)));first|exact ZX (fz-1) ⟨e+1,os.drop (e+1),us++[o],u2,by omega,by omega,rfl,Hc,by rw[List.length_append,List.length_singleton];omega,by rw[List.length_append,List.length_singleton];omega,rfl,rfl⟩ (by omega)|exact ZX (fz-1) ⟨e+1,os.drop (e+1),us,u,by omega,by omega,rfl,Hc,by omega,hun,rfl,rfl⟩ (by omega)
 ·have hen:e=os.length:=by omega
  rw[show st.Qe.take e=st.Qe by rw[hen,hol,List.take_length]]at hus;refine ZY 8 (ZY 6 (S.Wj (own u 60 4 (us.flatMap igC)) (alls us igB) (Ent.Ts u us _) (S.Qh (Qwl _) ?_)));refine S.sub (bX b {st with Qe:=[]} ps ub jb mb ov SV.nil dv mv sb l (imgs u (us.map (fun x:Ig=>x.2))::Γ)) ?_;refine S.Q6 b {st with Qe:=[]} ps ub jb mb ov SV.nil dv mv sb l ⟨hok.iset [],hF.perm,hF.on,rfl,hF.dn,hF.mn,hF.sn⟩ ?_;exact Zf ef Zq (⟨u,rfl,by rw[←hus,List.length_map];exact hun,by rw[←hus]⟩)
theorem Qry{st:Br}{n:Int}{t:Nt}{blob:List Int}(h:W5 st n true≠0):X6 st n t blob=(W5 st n true,st):=by rw[X6,if_pos h]
theorem Qmd{st:Br}{n:Nat}{t:Nt}{blob:List Int}(h:¬W5 st n true≠0)(h7:t.kind=7):X6 st n t blob=(0,W4 st n t):=by rw[X6,if_neg h,if_pos h7];rfl
theorem Qme{st:Br}{n:Nat}{t:Nt}{blob:List Int}(h:¬W5 st n true≠0)(h7:t.kind≠7)(hg:Qg st.js t.Qm=none):X6 st n t blob=(0,st):=by rw[X6,if_neg h,if_neg h7,hg]
theorem Qmf{st:Br}{n:Nat}{t:Nt}{blob:List Int}(h:¬W5 st n true≠0)(h7:t.kind≠7){x:Bj}(hg:Qg st.js t.Qm=some x)(hn:n∉x.at_):X6 st n t blob=(0,st):=by
 rw[X6,if_neg h,if_neg h7,hg];exact if_neg hn
theorem Qxb{st:Br}{n:Nat}{t:Nt}{blob:List Int}(h:¬W5 st n true≠0)(h7:t.kind≠7){x:Bj}(hg:Qg st.js t.Qm=some x)(hn:n∈x.at_):X6 st n t blob=(0,Wt st x n t blob):=by
 rw[X6,if_neg h,if_neg h7,hg];exact if_pos hn
abbrev Sc(x:Bj)(d:List Nat)(n:Nat):Bj:={x with Y4:=some (Yj d n),state:=if (Yj d n).length=x.at_.length then 2 else 1}
theorem JOk.Sc{N:Nat}{x:Bj}(h:JOk N x){d:List Nat}{n:Nat}(hd:(Yj d n).Nodup):JOk N (Sc x d n):=⟨h.B6,h.Al,h.tier,h.k1,h.kn,h.w,h.cr,h.wk,h.Jy,h.at_,h.drop,fun e he=>(by cases he;exact hd),h.ran,fun _=>rfl,h.svl⟩
theorem Ge{s:List Nat}(h:s.Nodup)(x:Nat):(Yj s x).Nodup:=by
 unfold Yj
 split
 ·exact h
 ·rename_i hx;rw[List.nodup_append];exact⟨h,by simp,fun a ha b hb e=>hx (by rw[List.mem_singleton]at hb;rw[←hb,←e];exact ha)⟩
section
variable {st:Br}{x:Bj}{n:Nat}{t:Nt}{blob:List Int}
theorem Qxe{d:List Nat}(h4:t.kind=4)(hs:x.state=1)(hd:x.Y4=some d):Wt st x n t blob=st.set (Sc x d n):=by
 unfold Wt;rw[if_pos h4,if_pos hs,hd];rfl
theorem Qrz(h4:t.kind=4)(hs:x.state≠1):Wt st x n t blob=st:=by
 unfold Wt;rw[if_pos h4,if_neg hs]
theorem Qxc(h9:t.kind=9):Wt st x n t blob=Wy st x n t blob:=by
 unfold Wt;rw[if_neg (by omega),if_pos h9]
theorem Qxf{d:List Nat}(h:t.kind=11)(hd:x.Qi=some d):Wt st x n t blob=Z6 st (Ml x d n):=by
 unfold Wt;rw[if_neg (by omega),if_neg (by omega),if_pos h,hd]
theorem Qr0(h:t.kind=11)(hd:x.Qi=none):Wt st x n t blob=st:=by
 unfold Wt;rw[if_neg (by omega),if_neg (by omega),if_pos h,hd]
theorem Qxd(h4:t.kind≠4)(h9:t.kind≠9)(h:t.kind≠11):Wt st x n t blob=st:=by
 unfold Wt;rw[if_neg h4,if_neg h9,if_neg h]
end
set_option maxHeartbeats 1000000 in
theorem Q9g(b:Nat)(st:Br)(ps:Nat→Nat)(n:Int)(t:Nt)(R:Assn)(bv:SV)(blob:List Int)(hbn:bv.n=blob.length)(hbl:blob.length≤1000000)(hR:RdS R bv bv.n 1 (bcells blob))(hz:t.W7≤4294967295∧t.Un≤4294967295)(hr8:t.Qt≤255)(hl:st.Qa.length≤880000)(hil:st.Qe.length≤900000) :
  Spec Tryz.prog 30 [pt b,.int .i64 n,.agg (ntC t bv).toArray] [BP b st ps,R] fun Γ v Θ=>v=.int .i64 (X6 st n t blob).1∧Θ=BP b (X6 st n t blob).2 ps::R::Γ:=by
 refine Spec.Us fun hok=>?_;refine Zbd Tryz.func30 rfl Tryz.ntmps30 fun w0 Γ=>Zsh (ZY 2 (Zp (S.box (cs:=[_,_,_,_,_,_,_,_,_,_,_,_,_]) rfl rfl rfl ?_)));intro b5;refine ZY 7 (Zp (Zcp Ze (Cq b st ps n true) (ZY 7 ?_)))
 refine Zj ef (fun h1=>?_) (fun h1=>?_)
 ·have hu:=Qry (t:=t) (blob:=blob) h1;refine ZY 6 ?_;exact Zf ef Zq (⟨by rw[hu];rfl,by rw[hu]⟩)
 ·have hr:=S7 (Classical.byContradiction h1);obtain⟨k,rfl⟩:∃k:Nat,n=k:=⟨n.toNat,by omega⟩;refine ZY 8 ?_
  refine Zj ef (fun h2=>?_) (fun h2=>?_)
  ·have hu:=Qmd (t:=t) (blob:=blob) h1 (by omega);refine ZY 5 (Zp (Zc1 Ze (Q25 b st ps k t bv hz hl) ?_));rintro v Θ rfl;refine ZY 6 ?_;exact Zf ef Zq (⟨by rw[hu];rfl,by rw[hu]⟩)
  ·have h7:t.kind≠7:=fun e=>h2 (by rw[e];rfl);refine ZY 2 ?_
   rcases Hi:Qg st.js t.Qm with _|x
   ·have hu:=Qme (blob:=blob) h1 h7 Hi;refine S.Xx b st ps fun ub jb mb ov iv dv mv sb l hF=>?_;have J0:Q1 (t.Qm:Int) l=none:=by rw[Wn hok.Yz hF.perm,Hi];rfl
    refine Zd0 (Zra 0 8) (ZY 6 ?_);refine Zw ef (Qj (.pointer none) Tryz.underlying82 Tryz.underlying31 Tryz.Ud.h rfl rfl rfl (by rw[J0];rfl)) (Zy ?_);refine ZD (ZY 8 (ZY 8 (ZY 5 (S.Q6 b st ps ub jb mb ov iv dv mv sb l hF ?_))));exact Zf ef Zq (⟨by rw[hu];rfl,by rw[hu]⟩)
   ·obtain⟨_,K0⟩:=Qd Hi;have hx:Qg st.js x.id=some x:=by rw[K0];exact Hi
    have Y5:=hok.at_ hx;have hN:=hok.Bz;have hal:=Y5.len;refine S.Wv b st ps x hx fun ub jb mb ov iv dv mv sb l i av lb db rb qb hF hi Q5 Ld hJ=>?_;have J0:Q1 (t.Qm:Int) l=some (pt (ps x.id)):=by rw[Wn hok.Yz hF.perm,Hi];rfl
    refine Zd0 (Zra 0 8) (ZY 6 ?_);refine Zw ef (Qj (pt (ps x.id)) Tryz.underlying82 Tryz.underlying31 Tryz.Ud.h rfl rfl rfl (by rw[J0];rfl)) (Zy ?_);refine ZD (ZY 8 (ZY 3 (Zg ef ef ef (Zcp Ze (Mr (own av 3 1 (nds x.at_)) av x.at_ k hJ.an RdS.own) (ZY 3 ?_)))))
    refine Zi ef (fun h3=>?_) (fun h3=>?_)
    ·have hu:=Qmf (blob:=blob) h1 h7 Hi (show k∉x.at_ by simpa using h3);refine ZY 5 (S.Qn b st ps ub jb mb ov iv dv mv sb l i x av lb db rb qb hi rfl (Q5 x rfl) (hF.set Y5) hJ ?_);rw[Qq hok hx];exact Zf ef Zq (⟨by rw[hu];rfl,by rw[hu]⟩)
    ·have hin:k∈x.at_:=by simpa using h3
     have hu:=Qxb (blob:=blob) h1 h7 Hi hin;refine ZY 8 (ZY 5 ?_)
     refine Zj ef (fun h4=>?_) (fun h4=>?_)
     ·have h4n:t.kind=4:=by omega
      refine ZY 8 (Zy ?_)
      refine Zj ef (fun h5=>?_) (fun h5=>?_)
      ·have h1s:x.state=1:=by omega
       obtain⟨d,hd⟩:∃d,x.Y4=some d:=Option.isSome_iff_exists.1 (Y5.ld h1s);obtain⟨q,rfl⟩:∃q,lb=some q:=by have:=hJ.l;rw[hd]at this;cases lb with|none=>cases this|some q=>exact⟨q,rfl⟩
       refine S.conv (Xz (some q) x.Y4) (Ent.Qqz hd _) ?_;have hc:=Qxe (st:=st) (n:=k) (blob:=blob) h4n h1s hd;have D7:=Y5.lod d hd;obtain⟨x1,Z4⟩:∃x1:Bj,x1=Sc x d k:=⟨_,rfl⟩;have Dy:JOk st.nodes x1:=by rw[Z4];exact Y5.Sc (Ge D7 k)
       have hid:x1.id=x.id:=by rw[Z4]
       refine ZY 7 (Zp (Zc1 Ze (Qj8 q d k) ?_));rintro v Θ rfl;refine ZY 2 ?_;refine Zd0 (Zra 0 11) (ZY 8 (ZY 3 ?_));refine ZD ?_
       refine Zj ef (fun h6=>?_) (fun h6=>?_)
       ·refine ZY 7 ?_;have hlen:(Yj d k).length=x.at_.length:=by have:=F5 (Yj d k);have:=hJ.an;omega
        refine S.Yw (ps x.id) (bjC x1 av (some q) db rb qb).toArray (by rw[Z4];simp only[Sc,if_pos hlen];rfl) ?_;refine S.conv (Qk q .i64 (Xy (Yj d k))) (Ent.Qcv (show x1.Y4=some (Yj d k) by rw[Z4]) _) ?_;refine S.sub (jX (ps x.id) x1 av (some q) db rb qb (bR b st ps ub jb mb ov iv dv mv sb l i (R::Γ))) (e:=by subst Z4;infer_instance) ?_;refine S.Qn b st ps ub jb mb ov iv dv mv sb l i x1 av (some q) db rb qb hi hid (Q5 x1 hid) (hF.set Dy) ⟨by rw[Z4];exact hJ.an,by rw[Z4];rfl,by rw[Z4];exact hJ.d,by rw[Z4];exact hJ.r,by rw[Z4];exact hJ.s⟩ ?_;rw[Z4,←hc];refine ZY 5 ?_;exact Zf ef Zq (⟨by rw[hu];rfl,by rw[hu]⟩)
       ·refine Zy ?_;have hlen:¬(Yj d k).length=x.at_.length:=by have:=F5 (Yj d k);have:=hJ.an;omega
        refine S.Yw (ps x.id) (bjC x1 av (some q) db rb qb).toArray (by rw[Z4];simp only[if_neg hlen,bjC];rw[h1s]) ?_;refine S.conv (Qk q .i64 (Xy (Yj d k))) (Ent.Qcv (show x1.Y4=some (Yj d k) by rw[Z4]) _) ?_;refine S.sub (jX (ps x.id) x1 av (some q) db rb qb (bR b st ps ub jb mb ov iv dv mv sb l i (R::Γ))) (e:=by subst Z4;infer_instance) ?_;refine S.Qn b st ps ub jb mb ov iv dv mv sb l i x1 av (some q) db rb qb hi hid (Q5 x1 hid) (hF.set Dy) ⟨by rw[Z4];exact hJ.an,by rw[Z4];rfl,by rw[Z4];exact hJ.d,by rw[Z4];exact hJ.r,by rw[Z4];exact hJ.s⟩ ?_;rw[Z4,←hc];refine ZY 5 ?_;exact Zf ef Zq (⟨by rw[hu];rfl,by rw[hu]⟩)
      ·refine Zy ?_;have hc:=Qrz (st:=st) (n:=k) (blob:=blob) h4n (show x.state≠1 by omega);refine S.Qn b st ps ub jb mb ov iv dv mv sb l i x av lb db rb qb hi rfl (Q5 x rfl) (hF.set Y5) hJ ?_;rw[Qq hok hx];refine S.conv (BP b st ps) (show Ent _ (BP b (Wt st x k t blob) ps::_) by rw[hc];exact Ent.refl _) (ZY 5 ?_);exact Zf ef Zq (⟨by rw[hu];rfl,by rw[hu]⟩)
     ·have h4n:t.kind≠4:=by omega
      refine ZY 5 ?_
      refine Zj ef (fun h7=>?_) (fun h7=>?_)
      ·have hc:=Qxc (st:=st) (x:=x) (n:=k) (blob:=blob) (show t.kind=9 by omega);refine S.Qn b st ps ub jb mb ov iv dv mv sb l i x av lb db rb qb hi rfl (Q5 x rfl) (hF.set Y5) hJ ?_;rw[Qq hok hx];refine ZY 5 (Zp (Zc1 Ze (Q0i b st ps x k t R bv blob hx hin hbn hbl hR hil hr8) ?_));rintro v Θ rfl;refine Zy ?_;rw[←hc];refine ZY 5 ?_;exact Zf ef Zq (⟨by rw[hu];rfl,by rw[hu]⟩)
      ·refine ZY 5 ?_
       refine Zj ef (fun h8=>?_) (fun h8=>?_)
       ·have h11:t.kind=11:=by omega
        refine ZY 6 (Zv (J7 Tryz.underlying81 rfl rfl) (Zy ?_))
        refine Zi ef (fun h9=>?_) (fun h9=>?_)
        ·obtain⟨q,rfl⟩:∃q,db=some q:=by cases db with|none=>cases h9|some q=>exact⟨q,rfl⟩
         obtain⟨d,hd⟩:∃d,x.Qi=some d:=by have:=hJ.d;cases e9:x.Qi with|none=>rw[e9]at this;cases this|some d=>exact⟨d,rfl⟩
         have hc:=Qxf (st:=st) (n:=k) (blob:=blob) h11 hd;have D7:=Y5.drop d hd;refine S.conv (Xz (some q) x.Qi) (Ent.Qqz hd _) ?_;obtain⟨x1,Z4⟩:∃x1:Bj,x1=Ml x d k:=⟨_,rfl⟩;have Dy:JOk st.nodes x1:=by rw[Z4];exact Y5.Ml D7 k
         have hid:x1.id=x.id:=by rw[Z4]
         refine ZY 7 (Zp (S.Jf Tryz.underlying81 Tryz.underlying3 rfl rfl rfl ?_));rw[M4 k D7];refine ZY 4 ?_;refine S.conv (Qk q .i64 (Xy (Vx d k))) (Ent.Qcv (show x1.Qi=some (Vx d k) by rw[Z4]) _) (S.Yw (ps x.id) (bjC x1 av lb (some q) rb qb).toArray (by rw[Z4]) ?_);refine S.sub (blk b5 72 (ntC t bv).toArray::jX (ps x.id) x1 av lb (some q) rb qb (bR b st ps ub jb mb ov iv dv mv sb l i (R::Γ))) (e:=by subst Z4;infer_instance) ?_;refine S.Qn b st ps ub jb mb ov iv dv mv sb l i x1 av lb (some q) rb qb hi hid (Q5 x1 hid) (hF.set Dy) ⟨by rw[Z4];exact hJ.an,by rw[Z4];exact hJ.l,by rw[Z4];rfl,by rw[Z4];exact hJ.r,by rw[Z4];exact hJ.s⟩ ?_;refine Zp (Zc1 Ze ((hid ▸ Qgo b (st.set x1) ps x1 (H5 st (by rw[hid];exact hx)):Spec Tryz.prog 53 [pt b,pt (ps x.id)] [BP b (st.set x1) ps] fun Γ _ Θ=>Θ=BP b (Z6 (st.set x1) x1) ps::Γ)) ?_);rintro v Θ rfl;rw[Ej st (x:=x1) (y:=x1) rfl];refine Zy ?_;rw[Z4,←hc];refine ZY 5 ?_;exact Zf ef Zq (⟨by rw[hu];rfl,by rw[hu]⟩)
        ·refine Zy ?_;have hd:x.Qi=none:=by have:=hJ.d;cases e9:x.Qi with|none=>rfl|some d=>rw[e9]at this;rw[this]at h9;cases h9
         have hc:=Qr0 (st:=st) (n:=k) (blob:=blob) h11 hd;refine S.Qn b st ps ub jb mb ov iv dv mv sb l i x av lb db rb qb hi rfl (Q5 x rfl) (hF.set Y5) hJ ?_;rw[Qq hok hx];refine S.conv (BP b st ps) (show Ent _ (BP b (Wt st x k t blob) ps::_) by rw[hc];exact Ent.refl _) (ZY 5 ?_);exact Zf ef Zq (⟨by rw[hu];rfl,by rw[hu]⟩)
       ·refine Zy ?_;have hc:=Qxd (st:=st) (x:=x) (n:=k) (blob:=blob) h4n (show t.kind≠9 by omega) (show t.kind≠11 by omega);refine S.Qn b st ps ub jb mb ov iv dv mv sb l i x av lb db rb qb hi rfl (Q5 x rfl) (hF.set Y5) hJ ?_;rw[Qq hok hx];refine S.conv (BP b st ps) (show Ent _ (BP b (Wt st x k t blob) ps::_) by rw[hc];exact Ent.refl _) (ZY 5 ?_);exact Zf ef Zq (⟨by rw[hu];rfl,by rw[hu]⟩)
section
variable {n:Nat}{md:Bool}{w0:WM md}{ρ:Env}{Γ Δ:List Assn}{φ:Act→World→Prop}
theorem S.Qf7(v:SV)(k:Nat)[q:Pick (Uz v k) Γ Δ](f:∀l:List Nat,l.length≤k→v.n=l.length→S n w0 ρ (own v 31 1 (Q9 l)::Δ) φ):S n w0 ρ Γ φ:=by
 intro a w ha hs hx;obtain⟨h0,l0,h1,h2,d,l1,l2,⟨l,q1,q2,q3⟩,s⟩:=hs.Qh q.Qh;exact f l q1 q2 a w ha ⟨h0,l0,h1,h2,d,l1,l2,q3,s⟩ hx
theorem Ent.lst(v:SV){l:List Nat}{k:Nat}(h:l.length≤k)(hv:v.n=l.length)(Γ:List Assn):Ent (own v 31 1 (Q9 l)::Γ) (Uz v k::Γ):=Ent.W9 Γ fun _ s=>⟨l,h,hv,s⟩
theorem Ent.Hm(v:SV){k k':Nat}(h:k≤k')(Γ:List Assn):Ent (Uz v k::Γ) (Uz v k'::Γ):=Ent.W9 Γ fun _ ⟨l,a,b,c⟩=>⟨l,Nat.le_trans a h,b,c⟩
theorem S.Qnj(b:Nat)[q:Pick (Qe1 b) Γ Δ](f:∀l:List (Int×Value),S n w0 ρ (Qk b .u32 l::Δ) φ):S n w0 ρ Γ φ:=by
 intro a w ha hs hx;obtain⟨h0,l0,h1,h2,d,l1,l2,⟨l,q1⟩,s⟩:=hs.Qh q.Qh;exact f l a w ha ⟨h0,l0,h1,h2,d,l1,l2,q1,s⟩ hx
theorem Ent.war(b:Nat)(l:List (Int×Value))(Γ:List Assn):Ent (Qk b .u32 l::Γ) (Qe1 b::Γ):=Ent.W9 Γ fun _ s=>⟨l,s⟩
end
theorem Qab(l:List Nat)(x:Nat):Q1 (x:Int) (F4 l)=if x∈l then some (.bool true) else none:=by
 induction l with
 | nil=>rfl
 | cons y l ih=>
  simp only[List.map_cons,Q1]
  by_cases h:x=y
  ·rw[if_pos (by omega),if_pos (by rw[h];exact List.mem_cons_self ..)]
  ·rw[if_neg (by omega)];refine ih.trans ?_
   by_cases h2:x∈l
   ·rw[if_pos h2,if_pos (List.mem_cons_of_mem _ h2)]
   ·rw[if_neg h2,if_neg (fun h3=>by rcases List.mem_cons.1 h3 with h3|h3;exact h h3;exact h2 h3)]
theorem Qaa(l:List Nat)(x:Nat):Yd (x:Int) (.bool true) (F4 l)=F4 (Yj l x):=by
 have key:∀l:List Nat,Yd (x:Int) (.bool true) (F4 l)=if x∈l then F4 l else F4 (l++[x]):=by
  intro l;induction l with
  | nil=>rfl
  | cons y l ih=>
   simp only[List.map_cons,Yd]
   by_cases h:x=y
   ·rw[if_pos (by omega),if_pos (by rw[h];exact List.mem_cons_self ..),h]
   ·rw[if_neg (by omega),ih]
    by_cases h2:x∈l
    ·rw[if_pos h2,if_pos (List.mem_cons_of_mem _ h2)]
    ·rw[if_neg h2,if_neg (fun h3=>by rcases List.mem_cons.1 h3 with h3|h3;exact h h3;exact h2 h3)];rfl
 rw[key,Yj];split <;> rfl
theorem E1{l:List Nd}{x:Nd}(h:l[0]?=some x):Vh l=l.set 0 {x with Qf:=true}:=by
 cases l with
 | nil=>cases h
 | cons y l=>cases h;rfl
theorem Qu7{l:List Nd}{o:Od}(h:l[o.1]?=none):B4 l o=Vh l:=by rw[B4,h]
theorem Qqx{l:List Nd}{o:Od}{x:Nd}(h:l[o.1]?=some x)(hu:x.up=false):B4 l o=Vh l:=by rw[B4,h];dsimp only;rw[hu];rfl
theorem Q1e{l:List Nd}{o:Od}{x:Nd}(h:l[o.1]?=some x)(hu:x.up=true):B4 l o=l.set o.1 {x with Yi:=x.Yi++[o.2]}:=by rw[B4,h];dsimp only;rw[hu];rfl
theorem Qlp(l:List Nd)(os:List Od)(o:Od):Vz l (os++[o])=B4 (Vz l os) o:=by rw[Vz,List.foldl_append];rfl
theorem H0(l:List Nd):(Vh l).length=l.length:=by cases l <;> rfl
theorem Qu8(l:List Nd)(o:Od):(B4 l o).length=l.length:=by
 unfold B4
 split
 ·exact H0 l
 ·split
  ·exact List.length_set ..
  ·exact H0 l
theorem Qdw(l:List Nd)(os:List Od):(Vz l os).length=l.length:=by
 induction os generalizing l with
 | nil=>rfl
 | cons o os ih=>exact(ih (B4 l o)).trans (Qu8 l o)
def qLe(l:List Nd)(k:Nat):Prop:=∀n∈l,n.Yi.length≤k∧n.out.length≤k
theorem qLe.mono{l:List Nd}{k k':Nat}(h:qLe l k)(hk:k≤k'):qLe l k':=fun n hn=>⟨Nat.le_trans (h n hn).1 hk,Nat.le_trans (h n hn).2 hk⟩
theorem qLe.set{l:List Nd}{k:Nat}(h:qLe l k){i:Nat}{x:Nd}(hx:x.Yi.length≤k∧x.out.length≤k):qLe (l.set i x) k:=fun n hn=>by
 rcases List.mem_or_eq_of_mem_set hn with h1|h1
 ·exact h n h1
 ·rw[h1];exact hx
theorem qLe.Qf{l:List Nd}{k:Nat}(h:qLe l k):qLe (Vh l) k:=by
 cases l with
 | nil=>exact h
 | cons x l=>
   intro n hn
   rcases List.mem_cons.1 hn with rfl|hn
   ·exact h x (List.mem_cons_self ..)
   ·exact h n (List.mem_cons_of_mem _ hn)
theorem qLe.ord{l:List Nd}{k:Nat}(h:qLe l k)(o:Od):qLe (B4 l o) (k+1):=by
 unfold B4
 split
 ·exact(h.mono (by omega)).Qf
 ·rename_i x hx;have h1:=h x (List.mem_of_getElem? hx)
  split
  ·refine(h.mono (by omega)).set ⟨?_,by show x.out.length≤_;omega⟩;show (x.Yi++[o.2]).length≤_;rw[List.length_append,List.length_singleton];omega
  ·exact(h.mono (by omega)).Qf
theorem qLe.ords{l:List Nd}{k:Nat}(h:qLe l k)(os:List Od):qLe (Vz l os) (k+os.length):=by
 induction os generalizing l k with
 | nil=>exact h
 | cons o os ih=>
  have:=ih (h.ord o);rw[List.length_cons];exact this.mono (by omega)
theorem Rp{ns:List No}{l:List Nd}(h:ns.map (·.2)=l){i:Nat}{x:Nd}(hx:l[i]?=some x):∃q,ns[i]?=some (q,x):=by
 rw[←h,List.getElem?_map]at hx;obtain⟨o,ho,e⟩:=Option.map_eq_some_iff.1 hx;exact⟨o.1,by rw[ho,←e]⟩
theorem De{ns:List No}{i q:Nat}{x:Nd}(h:ns[i]?=some (q,x))(y:Nd):(ns.set i (q,y)).map noV=ns.map noV∧(ns.set i (q,y)).map (·.2)=(ns.map (·.2)).set i y:=by
 refine⟨?_,by rw[List.map_set]⟩;refine List.ext_getElem? fun k=>?_;rw[List.getElem?_map,List.getElem?_map,List.getElem?_set]
 split
 ·rename_i e;subst e;rw[h,if_pos (List.getElem?_eq_some_iff.1 h).1];rfl
 ·rfl
theorem Qwn(l:List Ig):Hf (l.flatMap igC)=true:=List.all_eq_true.2 fun u hu=>by
 obtain⟨x,_,h⟩:=List.mem_flatMap.1 hu;simp only[igC,List.mem_cons,List.not_mem_nil,or_false]at h;rcases h with rfl|rfl|rfl|rfl <;> rfl
theorem Qmu(p:List Nd×List Nat)(l:List Nat)(id:Nat):(l++[id]).foldl Jg p=Jg (l.foldl Jg p) id:=by rw[List.foldl_append];rfl
theorem Qsa(p:List Nd×List Nat)(id:Nat):(Jg p id).1.length=p.1.length:=by
 unfold Jg;dsimp only
 split
 ·exact H0 _
 ·rfl
theorem Qcc(l:List Nat):∀(p:List Nd×List Nat),(l.foldl Jg p).1.length=p.1.length:=by
 induction l with
 | nil=>exact fun _=>rfl
 | cons id l ih=>exact fun p=>(ih _).trans (Qsa p id)
theorem Qwk(st:Br):(Wa st).1.length≤st.Qe.length:=List.length_filter_le _ _
structure Lv(s:Sm):Prop where
 len:s.nd.length=s.cn
 n1:1≤s.cn
 q:qLe s.nd s.fu
 im:s.Qe.length≤s.fu
 fu:s.fu≤100000000000
 o:s.b.Qa.length≤900000
 i:s.b.Qe.length≤900000
 d:s.b.done.length≤900000
set_option maxHeartbeats 8000000 in
theorem Gc(p:Nat)(s:Sm)(hk:Lv s):Spec Tryz.prog 56 [pt p] [SP p s] fun Γ _ Θ=>Θ=SP p (Vd s)::Γ:=by
 have hfu:=hk.fu;have hko:=hk.o;have hki:=hk.i;have hkd:=hk.d;have hn1:=hk.n1;have Zke:=hk.im;refine Zbd Tryz.func56 rfl Tryz.ntmps56 fun w0 Γ=>Zsh ?_;refine S.J4 p s fun b ps nv ns rb jb gb db wb iv dv wv hF=>?_;have hnn:=hF.nn;have hlen:=hk.len;refine S.Yf nv fun hv1 hv2 hv3=>?_;rw[List.length_map]at hv1;refine ZY 7 (Zp (Zc1 Ze (Q88 b s.b ps) ?_));rintro v Θ ⟨tv,rfl,Fw,rfl⟩;refine S.Yf tv fun ht1 ht2 ht3=>?_;have hmx:maxLen≤9223372036854775807:=by unfold maxLen;omega
 refine ZY 4 ?_;refine Zl (fun fz ρ' Γ'=>∃(e:Nat) (nds:List Nd) (ns:List No) (dv wv:SV),fz=s.b.Qa.length-e∧e≤s.b.Qa.length∧nds=Vz s.nd (s.b.Qa.take e)∧ns.map (·.2)=nds∧nv.n=nds.length∧ρ'=[(0,pt p),(10,tv.v),(11,.int .i64 (tv.n:Int)),(12,.int .i64 (e:Int))] ∧   Γ'=own tv 97 14 (s.b.Qa.flatMap odC)::blk p 55 (smC s b nv rb jb gb db wb iv dv wv).toArray::BP b {s.b with Qa:=[]} ps::own nv 103 1 (ns.map noV)::alls ns noB::Sa rb s.ran::Qk jb .u32 (s.Ym.map joE)::Qk gb .u32 (F4 s.gone)::Qk db .u32 (F4 s.done)::imgs iv s.Qe::Qe1 wb::Uz dv (s.fu+e)::Uz wv (s.fu+e)::Γ) (m:=_) (⟨0,s.nd,ns,dv,wv,rfl,by omega,rfl,hF.nd,hF.nn,rfl,rfl⟩) ?_;rintro fz ρ' Γ' ⟨e,nds,ns,dv,wv,hfz,he,Qw3,Ly,Hv,rfl,rfl⟩;have Zfv:nds.length=s.cn:=by rw[Qw3,Qdw,hlen]
 have hq:qLe nds (s.fu+900000):=by rw[Qw3];exact(hk.q.ords (s.b.Qa.take e)).mono (by rw[List.length_take];omega)
 refine ZY 5 ?_
 refine Zj ef (fun h1=>?_) (fun h1=>?_)
 ·refine S.Qp tv (by omega) fun tb tof Pu _ _ _=>?_;obtain⟨o,ho⟩:=Yv (show e<s.b.Qa.length by omega);have Xf:Vz s.nd (s.b.Qa.take (e+1))=B4 nds o:=by rw[List.take_add_one,ho,Qw3];exact Qlp _ _ _
  refine S.Qp nv (by omega) fun nb nof Am _ _ _=>?_;obtain⟨x0,Ta⟩:=Yv (show 0<nds.length by omega);obtain⟨q0,hq0⟩:=Rp Ly Ta;have hsw:Vh nds=nds.set 0 {x0 with Qf:=true}:=E1 Ta;obtain⟨m1,m2⟩:=De hq0 {x0 with Qf:=true};rw[Ly]at m2;refine ZY 5 (Zv (Zx (e) ef (Pu) ef (by omega)) ?_);refine Zv (X4 (tv) (e*14) [_,_,_,_,_,_,_,_,_,_,_,_,_,_] Eo.h rfl Pu (by first|rfl|exact Nat.add_assoc _ _ _|omega) rfl (Y8 (enc:=odC) (sz:=14) (fun _=>rfl) ho)) (Zp (S.alloc Tryz.z97.h rfl ?_));intro b3;refine Zp (Zs ef ef (cs':=[_,_,_,_,_,_,_,_,_,_,_,_,_,_]) ef (ZY 3 ?_))
  rcases hxo:nds[o.1]? with _|x
  ·have hor:=Qu7 hxo;have hge:nds.length≤o.1:=List.getElem?_eq_none_iff.1 hxo;refine Zd ([blk b3 97 (odC o).toArray,blk p 55 (smC s b nv rb jb gb db wb iv dv wv).toArray]) [] (Zra 0 4) (ZY 4 (Zu 19 false ef ((decide_eq_false (by omega))) ?_));refine Zr (Zra 4 10) (ZY 8 (ZY 2 (Zu 29 true ef ((decide_eq_true (by omega))) ?_)));refine Zr (Zra 14 13) (ZY 8 (ZY 5 ?_));refine ZD (ZY 7 (Zv (Zx (0) ef (Am) ef (by omega)) ?_));refine Zv (Zo (nv) (0) ef (Am) (by rw[List.getElem?_map,hq0];rfl)) ?_;refine S.conv (alls ns noB) (Ent.Wp noB hq0 _) ?_;refine S.Fu q0 x0 fun nrb niv nov rs os hN=>(ZY 6 ?_);refine S.Z7 q0 {x0 with Qf:=true} nrb niv nov rs os ⟨hN.rk,hN.os,hN.i,hN.o⟩ (S.Xb (noB ((q0,{x0 with Qf:=true}):No)) (alls (ns.take 0) noB) (alls (ns.drop (0+1)) noB) (Ent.Yl noB (x':=((q0,{x0 with Qf:=true}):No)) hq0 _) ?_);rw[←m1];refine S.conv (Uz wv (s.fu+e)) (Ent.Hm wv (k':=s.fu+(e+1)) (by omega) _) (S.conv (Uz dv (s.fu+e)) (Ent.Hm dv (k':=s.fu+(e+1)) (by omega) _) (Zv (Za ef ef) (ZY 2 ?_)));first|exact ZX (fz-1) ⟨e+1,nds.set o.1 {x with Yi:=x.Yi++[o.2]},ns.set o.1 (q,{x with Yi:=x.Yi++[o.2]}),dz,wv2,by omega,by omega,by rw[Xf,hor],c2,by rw[List.length_set];exact Hv,rfl,rfl⟩ (by omega)|exact ZX (fz-1) ⟨e+1,nds.set o.1 {x with Yi:=x.Yi++[o.2]},ns.set o.1 (q,{x with Yi:=x.Yi++[o.2]}),dz,wv,by omega,by omega,by rw[Xf,hor],c2,by rw[List.length_set];exact Hv,rfl,rfl⟩ (by omega)|exact ZX (fz-1) ⟨e+1,nds.set 0 {x0 with Qf:=true},ns.set 0 (q0,{x0 with Qf:=true}),dv,wv,by omega,by omega,by rw[Xf,hor,hsw],m2,by rw[List.length_set];exact Hv,rfl,rfl⟩ (by omega)
  ·have Wq:o.1<nds.length:=(List.getElem?_eq_some_iff.1 hxo).1;obtain⟨q,hqo⟩:=Rp Ly hxo;obtain⟨K0,hxu⟩:=hq x (List.mem_of_getElem? hxo);refine S.conv (alls ns noB) (Ent.Wp noB hqo _) ?_;refine S.Fu q x fun nrb niv nov rs os hN=>?_;have hNi:=hN.i;refine Zd ([blk b3 97 (odC o).toArray,blk p 55 (smC s b nv rb jb gb db wb iv dv wv).toArray,own nv 103 1 (ns.map noV),blk q 107 #[.bool x.up,.map (some nrb),niv.v,nov.v,.bool x.Qf]]) [] (Zra 0 4) (ZY 4 (Zu 19 false ef ((decide_eq_false (by omega))) ?_));refine Zr (Zra 4 10) (ZY 8 (ZY 2 (Zu 29 false ef ((decide_eq_false (by omega))) ?_)));refine Zr (Zra 14 13) (ZY 6 ?_);refine Zwg ef ef ef ef (Zx (o.1) ef (Am) ef (by omega)) ?_;refine Zwg ef ef ef ef (Zo (nv) (o.1) ef (Am) (by rw[List.getElem?_map,hqo];rfl)) ?_;refine ZY 5 ?_;refine ZD ?_
   refine Zi ef (fun h2=>?_) (fun h2=>?_)
   ·have hor:=Qqx hxo (by simpa using h2);refine S.Z7 q x nrb niv nov rs os hN (S.Xb (noB ((q,x):No)) (alls (ns.take o.1) noB) (alls (ns.drop (o.1+1)) noB) (Ent.Xc noB hqo _) (ZY 6 (Zv (Zx (0) ef (Am) ef (by omega)) ?_)));refine Zv (Zo (nv) (0) ef (Am) (by rw[List.getElem?_map,hq0];rfl)) ?_;refine S.conv (alls ns noB) (Ent.Wp noB hq0 _) ?_;refine S.Fu q0 x0 fun nrb niv nov rs os hN=>(ZY 6 ?_);first|(refine S.Z7 q0 {x0 with Qf:=true} nrb niv nov rs os ⟨hN.rk,hN.os,hN.i,hN.o⟩ ?_;refine S.Xb (noB ((q0,{x0 with Qf:=true}):No)) (alls (ns.take 0) noB) (alls (ns.drop (0+1)) noB) (Ent.Yl noB (x':=((q0,{x0 with Qf:=true}):No)) hq0 _) ?_;rw[←m1])|skip
    first|refine S.conv (Uz wv (s.fu+e)) (Ent.Hm wv (k':=s.fu+(e+1)) (by omega) _) ?_|skip
    first|refine S.conv (Uz dv (s.fu+e)) (Ent.Hm dv (k':=s.fu+(e+1)) (by omega) _) ?_|skip
    refine Zv (Za ef ef) (ZY 2 ?_);first|exact ZX (fz-1) ⟨e+1,nds.set o.1 {x with Yi:=x.Yi++[o.2]},ns.set o.1 (q,{x with Yi:=x.Yi++[o.2]}),dz,wv2,by omega,by omega,by rw[Xf,hor],c2,by rw[List.length_set];exact Hv,rfl,rfl⟩ (by omega)|exact ZX (fz-1) ⟨e+1,nds.set o.1 {x with Yi:=x.Yi++[o.2]},ns.set o.1 (q,{x with Yi:=x.Yi++[o.2]}),dz,wv,by omega,by omega,by rw[Xf,hor],c2,by rw[List.length_set];exact Hv,rfl,rfl⟩ (by omega)|exact ZX (fz-1) ⟨e+1,nds.set 0 {x0 with Qf:=true},ns.set 0 (q0,{x0 with Qf:=true}),dv,wv,by omega,by omega,by rw[Xf,hor,hsw],m2,by rw[List.length_set];exact Hv,rfl,rfl⟩ (by omega)
   ·have hor:=Q1e hxo (by simpa using h2);obtain⟨c1,c2⟩:=De hqo {x with Yi:=x.Yi++[o.2]};rw[Ly]at c2;refine ZY 2 ?_;refine Zd ([blk b3 97 (odC o).toArray,blk p 55 (smC s b nv rb jb gb db wb iv dv wv).toArray,own nv 103 1 (ns.map noV),blk q 107 #[.bool x.up,.map (some nrb),niv.v,nov.v,.bool x.Qf]]) [25] (Zra 0 21) (ZY 6 ?_);refine Zw ef (Zx (o.1) ef (Am) ef (by omega)) ?_;refine Zw ef (Zo (nv) (o.1) ef (Am) (by rw[List.getElem?_map,hqo];rfl)) ?_;refine ZY 6 ?_;refine Zw ef (Zx (o.1) ef (Am) ef (by omega)) ?_;refine Zw ef (Zo (nv) (o.1) ef (Am) (by rw[List.getElem?_map,hqo];rfl)) ?_;refine ZY 5 ?_;refine Z1 (i:=21) ef ef ?_;refine(S.buildSlice (pvs:=[(_,_)]) [_,_,_,_,_,_,_,_,_,_,_,_,_] Tryz.underlying105 Tryz.Ua.h rfl rfl ⟨⟨rfl,rfl⟩,trivial⟩ rfl rfl ?_);intro b72;refine Zk [] ?_;refine Z1 (i:=22) ef ef ?_;refine(S.Qu (s:=niv) (1) (niC o.2) Tryz.underlying105 Tryz.Ua.h rfl rfl rfl (Qy (b:=b72) rfl (by unfold maxLen;omega)) (by first|rfl|exact Ql _) (⟨by omega,by omega⟩) rfl ?_);intro niv2 Zbu;refine Zk [23,24] (ZY 2 ?_);refine Z1 (i:=25) ef ef ?_;refine(S.store (cs':=[_,_,_,_,_]) Eo.h rfl rfl rfl rfl rfl ?_);refine ZL ([]) [] ?_;refine ZD (ZY 3 ?_);rw[Xg niC x.Yi o.2];refine S.Z7 q {x with Yi:=x.Yi++[o.2]} nrb niv2 nov rs os ⟨hN.rk,hN.os,by show niv2.n=(x.Yi++[o.2]).length;rw[List.length_append,List.length_singleton];omega,hN.o⟩ (S.Xb (noB ((q,{x with Yi:=x.Yi++[o.2]}):No)) (alls (ns.take o.1) noB) (alls (ns.drop (o.1+1)) noB) (Ent.Yl noB (x':=((q,{x with Yi:=x.Yi++[o.2]}):No)) hqo _) ?_);rw[←c1];refine ZY 5 ?_
    refine Zj ef (fun h3=>?_) (fun h3=>?_)
    ·refine S.Qf7 dv (s.fu+e) fun dl hdl D7=>?_;refine Zd ([blk b3 97 (odC o).toArray,blk p 55 (smC s b nv rb jb gb db wb iv dv wv).toArray]) [12] (Zra 0 8) (ZY 8 ?_);refine Z1 (i:=8) ef ef ?_;refine(S.buildSlice (pvs:=[(_,_)]) [_] Tryz.underlying53 Tryz.Jr.h rfl rfl ⟨⟨rfl,rfl⟩,trivial⟩ rfl rfl ?_);intro b88;refine Zk [] ?_;refine Z1 (i:=9) ef ef ?_;refine(S.Qu (s:=dv) (1) (Q9 [o.2.Qm]) Tryz.underlying53 Tryz.Jr.h rfl rfl rfl (Qy (b:=b88) rfl (by unfold maxLen;omega)) (by first|rfl|exact Ql _) (⟨by omega,by omega⟩) rfl ?_);intro dz hdz;refine Zk [10,11] (ZY 2 ?_);refine Z1 (i:=12) ef ef ?_;refine(S.store (cs':=[_,_,_,_,_,_,_,_,_,_,_,_,_,_,_,_]) Eo.h rfl rfl rfl rfl rfl ?_);refine ZL ([]) [] ?_;refine ZD ?_;rw[show Q9 dl++Q9 [o.2.Qm]=Q9 (dl++[o.2.Qm]) from List.map_append.symm];refine S.conv (own dz 31 1 (Q9 (dl++[o.2.Qm]))) (Ent.lst dz (k:=s.fu+(e+1)) (by rw[List.length_append,List.length_singleton];omega) (by rw[List.length_append,List.length_singleton];omega) _) (ZY 7 ?_)
     refine Zj ef (fun h4=>?_) (fun h4=>?_)
     ·refine S.Qnj wb fun wl=>(Zy ?_);refine Zd ([blk b3 97 (odC o).toArray,blk p 55 (smC s b nv rb jb gb db wb iv dz wv).toArray]) [10] (Zra 0 10) (ZY 8 (ZY 2 ?_));refine Z1 (i:=10) ef ef ?_;refine(S.mapUpdate Tryz.underlying52 Tryz.underlying31 rfl rfl rfl rfl ?_);refine ZL ([]) [] ?_;refine ZD ?_;refine Zd ([blk b3 97 (odC o).toArray,blk p 55 (smC s b nv rb jb gb db wb iv dz wv).toArray]) [12] (Zra 0 8) (S.conv (Qk wb .u32 (Yd (o.2.Qm:Int) (.int .u32 (o.2.tick:Int)) wl)) (Ent.war wb _ _) ?_);refine S.Qf7 wv (s.fu+e) fun dl hdl D7=>(ZY 8 ?_);refine Z1 (i:=8) ef ef ?_;refine(S.buildSlice (pvs:=[(_,_)]) [_] Tryz.underlying53 Tryz.Jr.h rfl rfl ⟨⟨rfl,rfl⟩,trivial⟩ rfl rfl ?_);intro b114;refine Zk [] ?_;refine Z1 (i:=9) ef ef ?_;refine(S.Qu (s:=wv) (1) (Q9 [o.2.Qm]) Tryz.underlying53 Tryz.Jr.h rfl rfl rfl (Qy (b:=b114) rfl (by unfold maxLen;omega)) (by first|rfl|exact Ql _) (⟨by omega,by omega⟩) rfl ?_);intro wv2 Ze4;refine Zk [10,11] (ZY 2 ?_);refine Z1 (i:=12) ef ef ?_;refine(S.store (cs':=[_,_,_,_,_,_,_,_,_,_,_,_,_,_,_,_]) Eo.h rfl rfl rfl rfl rfl ?_);refine ZL ([]) [] ?_;refine ZD ?_;rw[show Q9 dl++Q9 [o.2.Qm]=Q9 (dl++[o.2.Qm]) from List.map_append.symm];refine S.conv (own wv2 31 1 (Q9 (dl++[o.2.Qm]))) (Ent.lst wv2 (k:=s.fu+(e+1)) (by rw[List.length_append,List.length_singleton];omega) (by rw[List.length_append,List.length_singleton];omega) _) (Zy ?_);first|(refine S.Z7 q0 {x0 with Qf:=true} nrb niv nov rs os ⟨hN.rk,hN.os,hN.i,hN.o⟩ ?_;refine S.Xb (noB ((q0,{x0 with Qf:=true}):No)) (alls (ns.take 0) noB) (alls (ns.drop (0+1)) noB) (Ent.Yl noB (x':=((q0,{x0 with Qf:=true}):No)) hq0 _) ?_;rw[←m1])|skip
      first|refine S.conv (Uz wv (s.fu+e)) (Ent.Hm wv (k':=s.fu+(e+1)) (by omega) _) ?_|skip
      first|refine S.conv (Uz dv (s.fu+e)) (Ent.Hm dv (k':=s.fu+(e+1)) (by omega) _) ?_|skip
      refine Zv (Za ef ef) (ZY 2 ?_);first|exact ZX (fz-1) ⟨e+1,nds.set o.1 {x with Yi:=x.Yi++[o.2]},ns.set o.1 (q,{x with Yi:=x.Yi++[o.2]}),dz,wv2,by omega,by omega,by rw[Xf,hor],c2,by rw[List.length_set];exact Hv,rfl,rfl⟩ (by omega)|exact ZX (fz-1) ⟨e+1,nds.set o.1 {x with Yi:=x.Yi++[o.2]},ns.set o.1 (q,{x with Yi:=x.Yi++[o.2]}),dz,wv,by omega,by omega,by rw[Xf,hor],c2,by rw[List.length_set];exact Hv,rfl,rfl⟩ (by omega)|exact ZX (fz-1) ⟨e+1,nds.set 0 {x0 with Qf:=true},ns.set 0 (q0,{x0 with Qf:=true}),dv,wv,by omega,by omega,by rw[Xf,hor,hsw],m2,by rw[List.length_set];exact Hv,rfl,rfl⟩ (by omega)
     ·refine ZY 2 ?_;first|(refine S.Z7 q0 {x0 with Qf:=true} nrb niv nov rs os ⟨hN.rk,hN.os,hN.i,hN.o⟩ ?_;refine S.Xb (noB ((q0,{x0 with Qf:=true}):No)) (alls (ns.take 0) noB) (alls (ns.drop (0+1)) noB) (Ent.Yl noB (x':=((q0,{x0 with Qf:=true}):No)) hq0 _) ?_;rw[←m1])|skip
      first|refine S.conv (Uz wv (s.fu+e)) (Ent.Hm wv (k':=s.fu+(e+1)) (by omega) _) ?_|skip
      first|refine S.conv (Uz dv (s.fu+e)) (Ent.Hm dv (k':=s.fu+(e+1)) (by omega) _) ?_|skip
      refine Zv (Za ef ef) (ZY 2 ?_);first|exact ZX (fz-1) ⟨e+1,nds.set o.1 {x with Yi:=x.Yi++[o.2]},ns.set o.1 (q,{x with Yi:=x.Yi++[o.2]}),dz,wv2,by omega,by omega,by rw[Xf,hor],c2,by rw[List.length_set];exact Hv,rfl,rfl⟩ (by omega)|exact ZX (fz-1) ⟨e+1,nds.set o.1 {x with Yi:=x.Yi++[o.2]},ns.set o.1 (q,{x with Yi:=x.Yi++[o.2]}),dz,wv,by omega,by omega,by rw[Xf,hor],c2,by rw[List.length_set];exact Hv,rfl,rfl⟩ (by omega)|exact ZX (fz-1) ⟨e+1,nds.set 0 {x0 with Qf:=true},ns.set 0 (q0,{x0 with Qf:=true}),dv,wv,by omega,by omega,by rw[Xf,hor,hsw],m2,by rw[List.length_set];exact Hv,rfl,rfl⟩ (by omega)
    ·refine Zy (S.conv (Uz dv (s.fu+e)) (Ent.Hm dv (k':=s.fu+(e+1)) (by omega) _) ?_);obtain⟨dz,hdz⟩:∃dz,dz=dv:=⟨_,rfl⟩;rw[←hdz];refine ZY 7 ?_
     refine Zj ef (fun h4=>?_) (fun h4=>?_)
     ·refine S.Qnj wb fun wl=>(Zy ?_);refine Zd ([blk b3 97 (odC o).toArray,blk p 55 (smC s b nv rb jb gb db wb iv dz wv).toArray]) [10] (Zra 0 10) (ZY 8 (ZY 2 ?_));refine Z1 (i:=10) ef ef ?_;refine(S.mapUpdate Tryz.underlying52 Tryz.underlying31 rfl rfl rfl rfl ?_);refine ZL ([]) [] ?_;refine ZD ?_;refine Zd ([blk b3 97 (odC o).toArray,blk p 55 (smC s b nv rb jb gb db wb iv dz wv).toArray]) [12] (Zra 0 8) (S.conv (Qk wb .u32 (Yd (o.2.Qm:Int) (.int .u32 (o.2.tick:Int)) wl)) (Ent.war wb _ _) ?_);refine S.Qf7 wv (s.fu+e) fun dl hdl D7=>(ZY 8 ?_);refine Z1 (i:=8) ef ef ?_;refine(S.buildSlice (pvs:=[(_,_)]) [_] Tryz.underlying53 Tryz.Jr.h rfl rfl ⟨⟨rfl,rfl⟩,trivial⟩ rfl rfl ?_);intro b114;refine Zk [] ?_;refine Z1 (i:=9) ef ef ?_;refine(S.Qu (s:=wv) (1) (Q9 [o.2.Qm]) Tryz.underlying53 Tryz.Jr.h rfl rfl rfl (Qy (b:=b114) rfl (by unfold maxLen;omega)) (by first|rfl|exact Ql _) (⟨by omega,by omega⟩) rfl ?_);intro wv2 Ze4;refine Zk [10,11] (ZY 2 ?_);refine Z1 (i:=12) ef ef ?_;refine(S.store (cs':=[_,_,_,_,_,_,_,_,_,_,_,_,_,_,_,_]) Eo.h rfl rfl rfl rfl rfl ?_);refine ZL ([]) [] ?_;refine ZD ?_;rw[show Q9 dl++Q9 [o.2.Qm]=Q9 (dl++[o.2.Qm]) from List.map_append.symm];refine S.conv (own wv2 31 1 (Q9 (dl++[o.2.Qm]))) (Ent.lst wv2 (k:=s.fu+(e+1)) (by rw[List.length_append,List.length_singleton];omega) (by rw[List.length_append,List.length_singleton];omega) _) (Zy ?_);first|(refine S.Z7 q0 {x0 with Qf:=true} nrb niv nov rs os ⟨hN.rk,hN.os,hN.i,hN.o⟩ ?_;refine S.Xb (noB ((q0,{x0 with Qf:=true}):No)) (alls (ns.take 0) noB) (alls (ns.drop (0+1)) noB) (Ent.Yl noB (x':=((q0,{x0 with Qf:=true}):No)) hq0 _) ?_;rw[←m1])|skip
      first|refine S.conv (Uz wv (s.fu+e)) (Ent.Hm wv (k':=s.fu+(e+1)) (by omega) _) ?_|skip
      first|refine S.conv (Uz dv (s.fu+e)) (Ent.Hm dv (k':=s.fu+(e+1)) (by omega) _) ?_|skip
      refine Zv (Za ef ef) (ZY 2 ?_);first|exact ZX (fz-1) ⟨e+1,nds.set o.1 {x with Yi:=x.Yi++[o.2]},ns.set o.1 (q,{x with Yi:=x.Yi++[o.2]}),dz,wv2,by omega,by omega,by rw[Xf,hor],c2,by rw[List.length_set];exact Hv,rfl,rfl⟩ (by omega)|exact ZX (fz-1) ⟨e+1,nds.set o.1 {x with Yi:=x.Yi++[o.2]},ns.set o.1 (q,{x with Yi:=x.Yi++[o.2]}),dz,wv,by omega,by omega,by rw[Xf,hor],c2,by rw[List.length_set];exact Hv,rfl,rfl⟩ (by omega)|exact ZX (fz-1) ⟨e+1,nds.set 0 {x0 with Qf:=true},ns.set 0 (q0,{x0 with Qf:=true}),dv,wv,by omega,by omega,by rw[Xf,hor,hsw],m2,by rw[List.length_set];exact Hv,rfl,rfl⟩ (by omega)
     ·refine ZY 2 ?_;first|(refine S.Z7 q0 {x0 with Qf:=true} nrb niv nov rs os ⟨hN.rk,hN.os,hN.i,hN.o⟩ ?_;refine S.Xb (noB ((q0,{x0 with Qf:=true}):No)) (alls (ns.take 0) noB) (alls (ns.drop (0+1)) noB) (Ent.Yl noB (x':=((q0,{x0 with Qf:=true}):No)) hq0 _) ?_;rw[←m1])|skip
      first|refine S.conv (Uz wv (s.fu+e)) (Ent.Hm wv (k':=s.fu+(e+1)) (by omega) _) ?_|skip
      first|refine S.conv (Uz dv (s.fu+e)) (Ent.Hm dv (k':=s.fu+(e+1)) (by omega) _) ?_|skip
      refine Zv (Za ef ef) (ZY 2 ?_);first|exact ZX (fz-1) ⟨e+1,nds.set o.1 {x with Yi:=x.Yi++[o.2]},ns.set o.1 (q,{x with Yi:=x.Yi++[o.2]}),dz,wv2,by omega,by omega,by rw[Xf,hor],c2,by rw[List.length_set];exact Hv,rfl,rfl⟩ (by omega)|exact ZX (fz-1) ⟨e+1,nds.set o.1 {x with Yi:=x.Yi++[o.2]},ns.set o.1 (q,{x with Yi:=x.Yi++[o.2]}),dz,wv,by omega,by omega,by rw[Xf,hor],c2,by rw[List.length_set];exact Hv,rfl,rfl⟩ (by omega)|exact ZX (fz-1) ⟨e+1,nds.set 0 {x0 with Qf:=true},ns.set 0 (q0,{x0 with Qf:=true}),dv,wv,by omega,by omega,by rw[Xf,hor,hsw],m2,by rw[List.length_set];exact Hv,rfl,rfl⟩ (by omega)
 ·rw[show s.b.Qa.take e=s.b.Qa by rw[show e=s.b.Qa.length by omega,List.take_length]]at Qw3;have hee:e=s.b.Qa.length:=by omega
  subst hee;have hig:(Wa {s.b with Qa:=[]}).1=(Wa s.b).1:=rfl;have his:=Qwk s.b;refine S.Eh iv s.Qe fun io hio=>?_;have hiol:io.length=s.Qe.length:=by rw[←hio,List.length_map]
  have him:=hF.im;refine ZY 2 ?_;refine Zd ([blk p 55 (smC s b nv rb jb gb db wb iv dv wv).toArray]) [13] (Zra 0 9) (ZY 8 (Zy ?_));refine Z1 (i:=9) ef ef ?_;refine  (Zc1 Ze (Qzf b {s.b with Qa:=[]} ps hki) ?_);rintro v Θ ⟨u,rfl,hun,rfl⟩;rw[hig]at hun ⊢;refine S.Eh u (Wa s.b).1 fun us hus=>?_;refine Zk [] ?_;refine Z1 (i:=10) ef ef ?_;refine(S.Qu (s:=iv) (u.n) (us.flatMap igC) Tryz.underlying51 Tryz.Qja.h rfl rfl rfl (fun w hs=>Wx.L3 inferInstance hs) (Qwn us) (⟨by omega,by omega⟩) rfl ?_);intro iv2 Zb6;rw[show io.flatMap igC++us.flatMap igC=(io++us).flatMap igC from List.flatMap_append.symm];refine Zk [11,12] (ZY 2 ?_);refine Z1 (i:=13) ef ef ?_;refine(S.store (cs':=[_,_,_,_,_,_,_,_,_,_,_,_,_,_,_,_]) Eo.h rfl rfl rfl rfl rfl ?_);refine ZL ([]) [] ?_;refine ZD (ZY 2 (S.Wj (alls io igB) (alls us igB) (Ent.Gz igB io us _) (S.Wj (own iv2 60 4 ((io++us).flatMap igC)) (alls (io++us) igB) (Ent.Ts iv2 (io++us) _) ?_)));rw[List.map_append,hio,hus];refine ZY 4 (Zp (Zc1 Ze (Q9l b (Wa {s.b with Qa:=[]}).2 ps) ?_));rintro v Θ ⟨tv2,rfl,Zff,rfl⟩;rw[show (Wa {s.b with Qa:=[]}).2.done=s.b.done from rfl]at Zff ⊢;rw[show ({ (Wa {s.b with Qa:=[]}).2 with done:=[]}:Br)={s.b with Qa:=[],Qe:=[],done:=[]} from rfl];refine S.Yf tv2 fun ht4 ht5 ht6=>(ZY 4 ?_);refine Zl (fun fz ρ' Γ'=>∃(e:Nat) (nds2:List Nd) (dl:List Nat) (ns:List No),fz=s.b.done.length-e∧e≤s.b.done.length∧(nds2,dl)=(s.b.done.take e).foldl Jg (nds,s.done)∧ns.map (·.2)=nds2∧nv.n=nds2.length∧ρ'=[(0,pt p),(136,tv2.v),(137,.int .i64 (tv2.n:Int)),(138,.int .i64 (e:Int))] ∧   Γ'=own tv2 31 1 (Q9 s.b.done)::blk p 55 (smC s b nv rb jb gb db wb iv2 dv wv).toArray::BP b {s.b with Qa:=[],Qe:=[],done:=[]} ps::own nv 103 1 (ns.map noV)::alls ns noB::Sa rb s.ran::Qk jb .u32 (s.Ym.map joE)::Qk gb .u32 (F4 s.gone)::Qk db .u32 (F4 dl)::imgs iv2 (s.Qe++(Wa s.b).1)::Qe1 wb::Uz dv (s.fu+s.b.Qa.length)::Uz wv (s.fu+s.b.Qa.length)::Γ) (m:=_) (⟨0,nds,s.done,ns,rfl,by omega,rfl,Ly,Hv,rfl,rfl⟩) ?_;rintro fz ρ' Γ' ⟨e,nds2,dl,ns,hfz,he,Qpg,Ly,Hv,rfl,rfl⟩
  have Zh0:nds2.length=s.cn:=by
   have:=Qcc (s.b.done.take e) (nds,s.done);rw[←Qpg]at this;exact this.trans Zfv
  refine ZY 5 ?_
  refine Zj ef (fun h5=>?_) (fun h5=>?_)
  ·refine S.Qp tv2 (by omega) fun tb tof Pu _ _ _=>?_;obtain⟨id,hid⟩:=Yv (show e<s.b.done.length by omega);refine S.Qp nv (by omega) fun nb nof Am _ _ _=>?_;obtain⟨x0,Ta⟩:=Yv (show 0<nds2.length by omega);obtain⟨q0,hq0⟩:=Rp Ly Ta;have hsw:Vh nds2=nds2.set 0 {x0 with Qf:=true}:=E1 Ta;obtain⟨m1,m2⟩:=De hq0 {x0 with Qf:=true};rw[Ly]at m2;have Xf:(s.b.done.take (e+1)).foldl Jg (nds,s.done)=Jg (nds2,dl) id:=by rw[List.take_add_one,hid,Qpg];exact Qmu _ _ _
   refine ZY 5 (Zv (Zx (e) ef (Pu) ef (by omega)) (Zv (Zo (tv2) (e) ef (Pu) (Gn hid)) (ZY 8 (ZY 2 ?_))));refine Zv (Qj (.bool (decide (id∈dl))) Tryz.underlying50 Tryz.underlying31 Tryz.zv4.h rfl rfl rfl (by rw[Qab];by_cases hm:id∈dl;(rw[if_pos hm,decide_eq_true hm];rfl);(rw[if_neg hm,decide_eq_false hm];rfl))) (Zy ?_)
   refine Zj ef (fun h6=>?_) (fun h6=>?_)
   ·have hdo:Jg (nds2,dl) id=(nds2.set 0 {x0 with Qf:=true},Yj dl id):=by rw[Jg];dsimp only;rw[if_pos h6,hsw]
    refine ZY 5 (Zv (Zx (0) ef (Am) ef (by omega)) ?_);refine Zv (Zo (nv) (0) ef (Am) (by rw[List.getElem?_map,hq0];rfl)) ?_;refine S.conv (alls ns noB) (Ent.Wp noB hq0 _) ?_;refine S.Fu q0 x0 fun nrb niv nov rs os hN=>(ZY 4 ?_);refine S.Z7 q0 {x0 with Qf:=true} nrb niv nov rs os ⟨hN.rk,hN.os,hN.i,hN.o⟩ (S.Xb (noB ((q0,{x0 with Qf:=true}):No)) (alls (ns.take 0) noB) (alls (ns.drop (0+1)) noB) (Ent.Yl noB (x':=((q0,{x0 with Qf:=true}):No)) hq0 _) ?_);rw[←m1];refine ZY 6 (Zp (S.mapUpdate Tryz.underlying50 Tryz.underlying31 rfl rfl rfl rfl ?_));rw[Qaa];refine ZY 2 (Zv (Za ef ef) (ZY 2 ?_));first|exact ZX (fz-1) ⟨e+1,nds2.set 0 {x0 with Qf:=true},Yj dl id,ns.set 0 (q0,{x0 with Qf:=true}),by omega,by omega,by rw[Xf,hdo],m2,by rw[List.length_set];exact Hv,rfl,rfl⟩ (by omega)|exact ZX (fz-1) ⟨e+1,nds2,Yj dl id,ns,by omega,by omega,by rw[Xf,hdo],Ly,Hv,rfl,rfl⟩ (by omega)
   ·have hdo:Jg (nds2,dl) id=(nds2,Yj dl id):=by rw[Jg];dsimp only;rw[if_neg h6]
    refine ZY 7 (Zp (S.mapUpdate Tryz.underlying50 Tryz.underlying31 rfl rfl rfl rfl ?_));rw[Qaa];refine ZY 2 (Zv (Za ef ef) (ZY 2 ?_));first|exact ZX (fz-1) ⟨e+1,nds2.set 0 {x0 with Qf:=true},Yj dl id,ns.set 0 (q0,{x0 with Qf:=true}),by omega,by omega,by rw[Xf,hdo],m2,by rw[List.length_set];exact Hv,rfl,rfl⟩ (by omega)|exact ZX (fz-1) ⟨e+1,nds2,Yj dl id,ns,by omega,by omega,by rw[Xf,hdo],Ly,Hv,rfl,rfl⟩ (by omega)
  ·rw[show s.b.done.take e=s.b.done by rw[show e=s.b.done.length by omega,List.take_length]]at Qpg;obtain⟨s2,Jz⟩:∃s2:Sm,s2={s with b:={s.b with Qa:=[],Qe:=[],done:=[]},nd:=nds2,done:=dl,Qe:=s.Qe++(Wa s.b).1,fu:=s.fu+s.b.Qa.length+s.b.Qe.length+s.b.done.length}:=⟨_,rfl⟩
   have hT:Vd s=s2:=by
    have e1:Vd s={s with b:={s.b with Qa:=[],Qe:=[],done:=[]},nd:=(s.b.done.foldl Jg (Vz s.nd s.b.Qa,s.done)).1,done:=(s.b.done.foldl Jg (Vz s.nd s.b.Qa,s.done)).2,Qe:=s.Qe++(Wa s.b).1,fu:=s.fu+s.b.Qa.length+s.b.Qe.length+s.b.done.length}:=rfl;rw[e1,←Qw3,←Qpg,Jz]
   refine Zy ?_;refine S.conv (Uz dv (s.fu+s.b.Qa.length)) (Ent.Hm dv (k':=s2.fu) (by rw[Jz];show _≤s.fu+s.b.Qa.length+s.b.Qe.length+s.b.done.length;omega) _) ?_;refine S.conv (Uz wv (s.fu+s.b.Qa.length)) (Ent.Hm wv (k':=s2.fu) (by rw[Jz];show _≤s.fu+s.b.Qa.length+s.b.Qe.length+s.b.done.length;omega) _) ?_;refine S.sub (smX p s2 b ps nv ns rb jb gb db wb iv2 dv wv Γ) (e:=by subst Jz;infer_instance) ?_;refine S.Xo p s2 b ps nv ns rb jb gb db wb iv2 dv wv ⟨by rw[Jz];exact Ly,by rw[Jz];exact Hv,by rw[Jz];show iv2.n=(s.Qe++(Wa s.b).1).length;rw[List.length_append];omega⟩ ?_;exact Zfn ef Zq (by rw[hT])
theorem Q1o(x y:Nat)(hx:x*y<18446744073709551616)(h1:x<18446744073709551616)(h2:y<18446744073709551616):Spec Tryz.prog 144 [.int .u64 (x:Int),.int .u64 (y:Int)] [] fun Γ v Θ=>v=.tuple #[.int .u64 0,.int .u64 ((x*y:Nat):Int)]∧Θ=Γ:=by
 intro Γ w hs;refine(Go.Proofs.Any.bits_Mul64 Tryz.Q1z x y h1 h2 w).mono ?_;rintro e w' ⟨rfl,rfl⟩;refine⟨_,Γ,rfl,⟨?_,rfl⟩,hs,Ext.refl _⟩;rw[Nat.div_eq_of_lt hx,Nat.mod_eq_of_lt hx];rfl
theorem Zaw(a b:Nat)(ha:a≤1000000)(hb:b≤1000):Spec Tryz.prog 111 [.int .i64 (a:Int),.int .i64 (b:Int)] [] fun Γ v Θ=>v=.int .i64 (a*b:Nat)∧Θ=Γ:=by
 have hab:a*b≤1000000000:=Nat.mul_le_mul ha hb;refine Zbd Tryz.func111 rfl Tryz.ntmps111 fun w0 Γ=>Zsh ?_;obtain⟨m,hm⟩:∃m,m=a*b:=⟨_,rfl⟩;have h64:=Q1o a b (by omega) (by omega) (by omega);rw[←hm]at h64 hab ⊢;refine ZY 7 (Zp (Zcp Ze (Sd a (by omega)) ?_));refine Zv (Xw Tryz.Q4r.h (by rw[Tryz.underlying3];rfl) rfl (Rt (by omega) (by omega))) (Zy (Zp (Zcp Ze (Sd b (by omega)) ?_)));refine Zv (Xw Tryz.Q4r.h (by rw[Tryz.underlying3];rfl) rfl (Rt (by omega) (by omega))) (Zp (Zcp Ze (h64) (ZY 8 (ZY 8 ?_))))
 refine Zj ef (fun h1=>?_) (fun h1=>?_)
 ·exact absurd h1 (by omega)
 ·refine ZY 4 ?_;refine Zv (Xw Tryz.it3.h (by rw[Tryz.underlying225];rfl) rfl (Y0 (by omega) (by omega))) (ZY 3 ?_);exact Zf ef Zq (⟨rfl,rfl⟩)
theorem Qiz(b:Nat)(st:Br)(ps:Nat→Nat)(x:Bj)(hx:Qg st.js x.id=some x):Spec Tryz.prog 76 [pt b,pt (ps x.id)] [BP b st ps] fun Γ v Θ=>v=.int .i64 (Cu st x:Nat)∧Θ=BP b st ps::Γ:=by
 refine Spec.Us fun hok=>?_;have Y5:=hok.at_ hx;have Sl:st.rows≤8:=by have:=hok.Hu.R8;rw[hok.R]at this;exact this
 have hcr:=Y5.cr;have hw:=Y5.w;refine Zbd Tryz.func76 rfl Tryz.ntmps76 fun w0 Γ=>Zsh ?_;refine S.Wv b st ps x hx fun ub jb mb ov iv dv mv sb l i av lb db rb qb hF hi Q5 Ld hJ=>(ZY 5 ?_);refine Zd ([blk (ps x.id) 90 (bjC x av lb db rb qb).toArray,blk b 84 (bC st ub jb mb ov iv dv mv sb).toArray]) [] [0,1,2,3,4,5,6,7,8,9,11,12,13,14,15] (ZY 8 (ZY 7 ?_));refine Z1 (i:=10) ef ef ?_;refine  (Zcp Ze (Q7a x.w x.Qb (by omega) hcr) ?_);refine Zk [] ?_;refine Z1 (i:=16) ef ef ?_;refine  (Zcp Ze (Zaw (x.w-x.Qb) st.rows (by omega) (by omega)) ?_);refine Zk [17] (Zy ?_);refine ZD (Zy (S.Qn b st ps ub jb mb ov iv dv mv sb l i x av lb db rb qb hi rfl (Q5 x rfl) (hF.set Y5) hJ ?_));rw[Qq hok hx];exact Zf ef Zq (⟨rfl,rfl⟩)
theorem fsnoc{α:Type}{p:α→Bool}{l:List α}{i:Nat}{x:α}(hx:l[i]?=some x)(b:Bool)(h:p x=b):(l.take (i+1)).filter p=(l.take i).filter p++if b then [x] else []:=by
 rw[List.take_add_one,hx,List.filter_append];cases b <;> simp[h]
def Qam(st:Br)(id:Nat):Bool:=match Qg st.js id with
 | none=>false
 | some x=>decide (x.state=2)&&x.Qi.isNone&&decide (x.work<x.w)
theorem Qqo(st:Br)(l:List Nat):Wl st l=l.filter (Qam st):=rfl
theorem Quk{st:Br}{id:Nat}(h:Qg st.js id=none):Qam st id=false:=by rw[Qam,h]
theorem Quj{st:Br}{id:Nat}{x:Bj}(h:Qg st.js id=some x):Qam st id=(decide (x.state=2)&&x.Qi.isNone&&decide (x.work<x.w)):=by rw[Qam,h]
theorem Pn{α β:Type}{a:Option α}{b:Option β}(h:a.isSome=b.isSome):a.isNone=b.isNone:=by cases a <;> cases b <;> first|rfl|cases h
set_option maxHeartbeats 1000000 in
theorem Qn5(b:Nat)(st:Br)(ps:Nat→Nat)(s:SV)(xs:List Nat)(Uj:s.n=xs.length)(Mu:xs.length≤1000000):Spec Tryz.prog 89 [pt b,s.v] [BP b st ps,own s 31 1 (Q9 xs)] fun Γ v Θ=>∃u:SV,v=u.v∧u.n=(Wl st xs).length∧Θ=own u 31 1 (Q9 (Wl st xs))::BP b st ps::own s 31 1 (Q9 xs)::Γ:=by
 rw[Qqo];refine Spec.Us fun hok=>?_;refine Zbd Tryz.func89 rfl Tryz.ntmps89 fun w0 Γ=>Zsh ?_;refine S.Yf s fun Pz Gq Si=>?_;have hmx:maxLen≤9223372036854775807:=by unfold maxLen;omega
 refine ZY 8 (ZY 3 ?_);refine S.Qh (show Ent _ (own SV.nil 31 1 (Q9 [])::_) from Ent.Ye 31 1) (ZY 5 ?_);refine Zl (fun q ρ' Γ'=>∃(e:Nat) (us:List Nat) (u:SV),q=xs.length-e∧e≤xs.length∧us=(xs.take e).filter (Qam st)∧us.length≤e∧u.n=us.length∧ρ'=[(0,pt b),(5,u.v),(9,s.v),(10,.int .i64 (s.n:Int)),(11,.int .i64 (e:Int))]∧Γ'=own u 31 1 (Q9 us)::BP b st ps::own s 31 1 (Q9 xs)::Γ) (m:=_) (⟨0,[],SV.nil,rfl,by omega,rfl,by simp,rfl,rfl,rfl⟩) ?_;rintro q ρ' Γ' ⟨e,us,u,hq,he,hus,hul,hun,rfl,rfl⟩;refine ZY 5 ?_
 refine Zj ef (fun h1=>?_) (fun h1=>?_)
 ·refine S.Qp s (by omega) fun ib io hia _ _ _=>?_;obtain⟨id,hid⟩:=Yv (show e<xs.length by omega);refine ZY 5 (Zv (Zx (e) ef (hia) ef (by omega)) (Zv (Zo (s) (e) ef (hia) (Gn hid)) (ZY 3 ?_)))
  rcases Hi:Qg st.js id with _|x
  ·have Hc:us=(xs.take (e+1)).filter (Qam st):=by rw[fsnoc hid false (Quk Hi),hus];simp
   refine S.Xx b st ps fun ub jb mb ov iv dv mv sb l hF=>?_;have J0:Q1 (id:Int) l=none:=by rw[Wn hok.Yz hF.perm,Hi];rfl
   refine ZY 6 ?_;refine Zv (Qj (.pointer none) Tryz.underlying82 Tryz.underlying31 Tryz.Ud.h rfl rfl rfl (by rw[J0];rfl)) (ZY 3 ?_);refine Zd ([]) [] [0,1,2] (ZY 3 ?_);refine Zr (Zra 3 26) (ZY 8 (ZY 8 (ZY 8 (ZY 2 ?_))));refine ZD (ZY 3 (S.Q6 b st ps ub jb mb ov iv dv mv sb l hF (Zv (Za ef ef) (ZY 2 ?_))));first|exact ZX (q-1) ⟨e+1,us++[_],u2,by omega,by omega,Hc,by rw[List.length_append,List.length_singleton];omega,by rw[List.length_append,List.length_singleton];omega,rfl,rfl⟩ (by omega)|exact ZX (q-1) ⟨e+1,us,u,by omega,by omega,Hc,by omega,hun,rfl,rfl⟩ (by omega)
  ·obtain⟨_,K0⟩:=Qd Hi;subst K0;have Y5:=hok.at_ Hi;have Q2m:=Quj Hi;refine S.Wv b st ps x Hi fun ub jb mb ov iv dv mv sb l i av lb db rb qb hF hi Q5 Ld hJ=>?_;have J0:Q1 (x.id:Int) l=some (pt (ps x.id)):=by rw[Wn hok.Yz hF.perm,Hi];rfl
   have D7:=Pn hJ.d;refine ZY 6 ?_;refine Zv (Qj (pt (ps x.id)) Tryz.underlying82 Tryz.underlying31 Tryz.Ud.h rfl rfl rfl (by rw[J0];rfl)) (ZY 3 ?_);refine Zd ([blk (ps x.id) 90 (bjC x av lb db rb qb).toArray]) [] [0,1,2] (ZY 3 ?_);refine Zr (Zra 3 8) (ZY 8 ?_)
   refine Zb 31 ef (fun hg6_10=>?_) (fun hg6_10=>?_)
   ·refine Zr (Zra 11 7) (ZY 4 ?_);refine Zwg ef ef ef ef (Ky Tryz.underlying81 rfl rfl) (ZY 2 ?_)
    refine Zbb 38 ef (fun hg6_17=>?_) (fun hg6_17=>?_)
    ·refine Zr (Zra 18 11) (ZY 8 (ZY 3 ?_));refine ZD ?_
     refine Zj ef (fun h2=>?_) (fun h2=>?_)
     ·have Hc:us++[x.id]=(xs.take (e+1)).filter (Qam st):=by rw[fsnoc hid true (by rw[Q2m,←D7,hg6_17,decide_eq_true (show x.state=2 by omega),decide_eq_true (show x.work<x.w by omega)];rfl),hus];rfl
      refine ZY 3 ?_;refine Zp (S.buildSlice (pvs:=[(_,_)]) [_] Tryz.underlying53 Tryz.Jr.h rfl rfl ⟨⟨rfl,rfl⟩,trivial⟩ rfl rfl ?_);intro b52;refine Zp (S.Qu (s:=u) (1) (Q9 [x.id]) Tryz.underlying53 Tryz.Jr.h rfl rfl rfl (Qy (b:=b52) rfl (by unfold maxLen;omega)) (by first|rfl|exact Ql _) (⟨by omega,by omega⟩) rfl ?_);intro u2 hu2;rw[show Q9 us++Q9 [x.id]=Q9 (us++[x.id]) from List.map_append.symm];refine ZY 3 (S.Qn b st ps ub jb mb ov iv dv mv sb l i x av lb db rb qb hi rfl (Q5 x rfl) (hF.set Y5) hJ ?_);rw[Qq hok Hi];refine Zv (Za ef ef) (ZY 2 ?_);first|exact ZX (q-1) ⟨e+1,us++[_],u2,by omega,by omega,Hc,by rw[List.length_append,List.length_singleton];omega,by rw[List.length_append,List.length_singleton];omega,rfl,rfl⟩ (by omega)|exact ZX (q-1) ⟨e+1,us,u,by omega,by omega,Hc,by omega,hun,rfl,rfl⟩ (by omega)
     ·have Hc:us=(xs.take (e+1)).filter (Qam st):=by first|exact Hc|(rw[fsnoc hid false (by rw[Q2m,decide_eq_false (show ¬x.work<x.w by omega),Bool.and_false]),hus];simp)
      refine ZY 2 (S.Qn b st ps ub jb mb ov iv dv mv sb l i x av lb db rb qb hi rfl (Q5 x rfl) (hF.set Y5) hJ ?_);rw[Qq hok Hi];refine Zv (Za ef ef) (ZY 2 ?_);first|exact ZX (q-1) ⟨e+1,us++[_],u2,by omega,by omega,Hc,by rw[List.length_append,List.length_singleton];omega,by rw[List.length_append,List.length_singleton];omega,rfl,rfl⟩ (by omega)|exact ZX (q-1) ⟨e+1,us,u,by omega,by omega,Hc,by omega,hun,rfl,rfl⟩ (by omega)
    ·have Hc:us=(xs.take (e+1)).filter (Qam st):=by rw[fsnoc hid false (by rw[Q2m,←D7,hg6_17,Bool.and_false];rfl),hus];simp
     refine Zr (Zra 18 11) (ZY 8 (ZY 3 ?_));refine ZD (ZY 3 (S.Qn b st ps ub jb mb ov iv dv mv sb l i x av lb db rb qb hi rfl (Q5 x rfl) (hF.set Y5) hJ ?_));rw[Qq hok Hi];refine Zv (Za ef ef) (ZY 2 ?_);first|exact ZX (q-1) ⟨e+1,us++[_],u2,by omega,by omega,Hc,by rw[List.length_append,List.length_singleton];omega,by rw[List.length_append,List.length_singleton];omega,rfl,rfl⟩ (by omega)|exact ZX (q-1) ⟨e+1,us,u,by omega,by omega,Hc,by omega,hun,rfl,rfl⟩ (by omega)
   ·have Hc:us=(xs.take (e+1)).filter (Qam st):=by rw[fsnoc hid false (by rw[Q2m,decide_eq_false (show ¬x.state=2 by omega)];rfl),hus];simp
    refine Zr (Zra 11 18) (ZY 8 (ZY 8 (ZY 2 ?_)));refine ZD (ZY 3 (S.Qn b st ps ub jb mb ov iv dv mv sb l i x av lb db rb qb hi rfl (Q5 x rfl) (hF.set Y5) hJ ?_));rw[Qq hok Hi];refine Zv (Za ef ef) (ZY 2 ?_);first|exact ZX (q-1) ⟨e+1,us++[_],u2,by omega,by omega,Hc,by rw[List.length_append,List.length_singleton];omega,by rw[List.length_append,List.length_singleton];omega,rfl,rfl⟩ (by omega)|exact ZX (q-1) ⟨e+1,us,u,by omega,by omega,Hc,by omega,hun,rfl,rfl⟩ (by omega)
 ·rw[show xs.take e=xs by rw[show e=xs.length by omega,List.take_length]]at hus;refine ZY 7 ?_;exact Zf ef Zq (⟨u,rfl,by rw[←hus];exact hun,by rw[←hus]⟩)
def Ai(st:Br)(id:Nat):Bool:=match Qg st.js id with
 | none=>false
 | some x=>x.Qi.isNone
theorem Qwp(st:Br):Qbs st=!st.members.any (Ai st):=rfl
abbrev jP(b:Nat)(st:Br)(ps:Nat→Nat)(ub jb mb:Nat)(ov iv dv mv:SV)(sb:Option Nat)(l:List (Int×Value))(t1:Nat)(Γ:List Assn):List Assn:=
 blk t1 27 #[pt b]::blk b 84 (bC st ub jb mb ov iv dv mv sb).toArray::Qk jb .u32 l::alls st.js (jI ps)::Γ
section
variable {b:Nat}{st:Br}{ps:Nat→Nat}{ub jb mb:Nat}{ov iv dv mv:SV}{sb:Option Nat}{l:List (Int×Value)}
theorem Q2b(hF:BF st ps ov iv dv mv sb l)(t1:Nat)(id:Nat):Spec Tryz.prog 72 [.int .u32 (id:Int),pt t1] (jP b st ps ub jb mb ov iv dv mv sb l t1 []) fun Γ v Θ=>v=.bool (Ai st id)∧Θ=jP b st ps ub jb mb ov iv dv mv sb l t1 Γ:=by
 have hok:=hF.ok;refine Zbd Tryz.func72 rfl Tryz.ntmps72 fun w0 Γ=>Zsh (ZY 5 ?_)
 rcases Hi:Qg st.js id with _|x
 ·have hlv:Ai st id=false:=by rw[Ai,Hi]
  have J0:Q1 (id:Int) l=none:=by rw[Wn hok.Yz hF.perm,Hi];rfl
  refine ZY 6 ?_;refine Zv (Qj (.pointer none) Tryz.underlying82 Tryz.underlying31 Tryz.Ud.h rfl rfl rfl (by rw[J0];rfl)) (ZY 8 (ZY 8 ?_));exact Zf ef Zq (⟨by rw[hlv];rfl,rfl⟩)
 ·obtain⟨_,K0⟩:=Qd Hi;subst K0;have hlv:Ai st x.id=x.Qi.isNone:=by rw[Ai,Hi]
  have J0:Q1 (x.id:Int) l=some (pt (ps x.id)):=by rw[Wn hok.Yz hF.perm,Hi];rfl
  obtain⟨i,hi,_,_⟩:=Bt hok.Yz Hi;refine S.conv (alls st.js (jI ps)) (Ent.Wp (jI ps) hi _) ?_;refine S.Qgc (ps x.id) x fun av lb db rb qb ha hlb hdb hrb hqb=>?_;have D7:=Pn hdb;refine ZY 6 ?_;refine Zv (Qj (pt (ps x.id)) Tryz.underlying82 Tryz.underlying31 Tryz.Ud.h rfl rfl rfl (by rw[J0];rfl)) (ZY 7 ?_);refine Zvg ef ef ef (Qj (pt (ps x.id)) Tryz.underlying82 Tryz.underlying31 Tryz.Ud.h rfl rfl rfl (by rw[J0];rfl)) (ZY 3 (Zvg ef ef ef (Ky Tryz.underlying81 rfl rfl) (ZY 4 (S.N8 (ps x.id) x av lb db rb qb ha hlb hdb hrb hqb (S.Xb (JI (ps x.id) x) (alls (st.js.take i) (jI ps)) (alls (st.js.drop (i+1)) (jI ps)) (Ent.Xc (jI ps) hi _) ?_)))));exact Zf ef Zq (⟨by rw[hlv,←D7];rfl,rfl⟩)
theorem Q18(hF:BF st ps ov iv dv mv sb l)(t1:Nat)(s:SV)(xs:List Nat)(Uj:s.n=xs.length):Spec Tryz.prog 107 [s.v,.func (.func 72) #[] #[pt t1]] (own s 31 1 (Q9 xs)::jP b st ps ub jb mb ov iv dv mv sb l t1 []) fun Γ v Θ=>
  (∃z:Int,v=.int .i64 z∧(0≤z↔xs.any (Ai st)=true))∧Θ=own s 31 1 (Q9 xs)::jP b st ps ub jb mb ov iv dv mv sb l t1 Γ:=by
 refine Zbd Tryz.func107 rfl Tryz.ntmps107 fun w0 Γ=>Zsh ?_;refine S.Yf s fun Pz Gq Si=>?_;have hmx:maxLen≤9223372036854775807:=by unfold maxLen;omega
 refine ZY 8 (ZY 4 ?_);refine Zl (fun q ρ' Γ'=>∃e:Nat,q=xs.length-e∧e≤xs.length∧(xs.take e).any (Ai st)=false∧ρ'=[(0,s.v),(1,.func (.func 72) #[] #[pt t1]),(7,.int .i64 (s.n:Int)),(8,.int .i64 (e:Int))]∧Γ'=own s 31 1 (Q9 xs)::jP b st ps ub jb mb ov iv dv mv sb l t1 Γ) (m:=_) (⟨0,rfl,by omega,rfl,rfl,rfl⟩) ?_;rintro q ρ' Γ' ⟨e,hq,he,Vb,rfl,rfl⟩;refine ZY 5 ?_
 refine Zj ef (fun h1=>?_) (fun h1=>?_)
 ·refine S.Qp s (by omega) fun ib io hia _ _ _=>?_;obtain⟨id,hid⟩:=Yv (show e<xs.length by omega);have Hd:xs.take (e+1)=xs.take e++[id]:=by rw[List.take_add_one,hid];rfl
  refine ZY 8 (ZY 5 (Zv (Zx (e) ef (hia) ef (by omega)) (Zv (Zo (s) (e) ef (hia) (Gn hid)) ?_)));refine Zp (S.Qpw (fs:=[]) (cs:=[pt t1]) (vs:=[_]) Eo.h rfl ⟨rfl,trivial⟩ (Q2b (b:=b) (ub:=ub) (jb:=jb) (mb:=mb) hF t1 id) rfl ?_);rintro v Θ ⟨rfl,rfl⟩;refine Zy ?_
  refine Zi ef (fun h2=>?_) (fun h2=>?_)
  ·refine ZY 6 ?_;exact Zf ef Zq (⟨⟨(e:Int),rfl,fun _=>List.any_eq_true.2 ⟨id,List.mem_of_getElem? hid,h2⟩,fun _=>by omega⟩,rfl⟩)
  ·have Ql7:(xs.take (e+1)).any (Ai st)=false:=by rw[Hd,List.any_append,Vb];simp[h2]
   refine ZY 2 (Zv (Za ef ef) (ZY 2 ?_));exact ZX (q-1) (⟨e+1,by omega,by omega,Ql7,rfl,rfl⟩) (by omega)
 ·rw[show e=xs.length by omega,List.take_length]at Vb;refine ZY 6 ?_;exact Zf ef Zq (⟨⟨-1,rfl,fun h=>absurd h (by decide),fun h=>by rw[Vb]at h;cases h⟩,rfl⟩)
theorem Qx6(hF:BF st ps ov iv dv mv sb l)(t1:Nat)(s:SV)(xs:List Nat)(Uj:s.n=xs.length):Spec Tryz.prog 71 [s.v,.func (.func 72) #[] #[pt t1]] (own s 31 1 (Q9 xs)::jP b st ps ub jb mb ov iv dv mv sb l t1 []) fun Γ v Θ=>
  v=.bool (xs.any (Ai st))∧Θ=own s 31 1 (Q9 xs)::jP b st ps ub jb mb ov iv dv mv sb l t1 Γ:=by
 refine Zbd Tryz.func71 rfl Tryz.ntmps71 fun w0 Γ=>Zsh (ZY 8 (Zp (Zc1 Ze (Q18 (b:=b) (ub:=ub) (jb:=jb) (mb:=mb) hF t1 s xs Uj) ?_)));rintro v Θ ⟨⟨z,rfl,hz⟩,rfl⟩;refine ZY 4 ?_;exact Zf ef Zq (⟨by show Value.bool (decide (0≤z))=_;congr 1;rw[Bool.eq_iff_iff,decide_eq_true_iff];exact hz,rfl⟩)
end
theorem Q7j(b:Nat)(st:Br)(ps:Nat→Nat):Spec Tryz.prog 40 [pt b] [BP b st ps] fun Γ v Θ=>v=.bool (Qbs st)∧Θ=BP b st ps::Γ:=by
 refine Zbd Tryz.func40 rfl Tryz.ntmps40 fun w0 Γ=>Zsh ?_;refine S.Xx b st ps fun ub jb mb ov iv dv mv sb l hF=>(ZY 2 (Zp (S.box (cs:=[_]) rfl rfl rfl ?_)));intro b1;refine ZY 8 (Zy (Zp (Zcp Ze (Qx6 (b:=b) (ub:=ub) (jb:=jb) (mb:=mb) hF b1 mv st.members hF.mn) (ZY 4 (S.Q6 b st ps ub jb mb ov iv dv mv sb l hF ?_)))));exact Zf ef Zq (⟨by rw[Qwp];rfl,rfl⟩)
theorem Q6y(b:Nat)(st:Br)(ps:Nat→Nat)(x:Bj)(hx:Qg st.js x.id=some x):Spec Tryz.prog 81 [pt (ps x.id)] [BP b st ps] fun Γ v Θ=>v=.bool (x.Vo || x.Qi.isSome)∧Θ=BP b st ps::Γ:=by
 refine Spec.Us fun hok=>?_;have Y5:=hok.at_ hx;refine Zbd Tryz.func81 rfl Tryz.ntmps81 fun w0 Γ=>Zsh ?_;refine S.Wv b st ps x hx fun ub jb mb ov iv dv mv sb l i av lb db rb qb hF hi Q5 Ld hJ=>?_;have hJd:=hJ.d;refine ZY 8 (ZY 3 ?_)
 refine Zbb 7 ef (fun hg1_4=>?_) (fun hg1_4=>?_)
 ·refine ZY 8 (Zy (S.Qn b st ps ub jb mb ov iv dv mv sb l i x av lb db rb qb hi rfl (Q5 x rfl) (hF.set Y5) hJ ?_));rw[Qq hok hx];exact Zf ef Zq (⟨by simp[hg1_4,←hJd,X2],rfl⟩)
 ·refine ZY 4 (Zvg ef ef ef (J7 Tryz.underlying81 rfl rfl) (ZY 4 (S.Qn b st ps ub jb mb ov iv dv mv sb l i x av lb db rb qb hi rfl (Q5 x rfl) (hF.set Y5) hJ ?_)));rw[Qq hok hx];exact Zf ef Zq (⟨by simp[hg1_4,←hJd,X2],rfl⟩)
abbrev lvB(x:Bj):Bool:=x.Vo || x.Qi.isSome
theorem Q7h(b:Nat)(st:Br)(ps:Nat→Nat)(s:SV)(Uj:s.n=st.js.length):Spec Tryz.prog 118 [s.v,.func (.func 81) #[] #[]] [own s 86 1 (pts ps st.js),BP b st ps] fun Γ v Θ=>
  (∃z:Int,v=.int .i64 z∧(0≤z↔st.js.any lvB=true))∧Θ=own s 86 1 (pts ps st.js)::BP b st ps::Γ:=by
 refine Zbd Tryz.func118 rfl Tryz.ntmps118 fun w0 Γ=>Zsh ?_;refine S.Yf s fun Pz Gq Si=>?_;have hmx:maxLen≤9223372036854775807:=by unfold maxLen;omega
 refine S.Us b st ps fun hok=>(ZY 8 (ZY 4 ?_));refine Zl (fun q ρ' Γ'=>∃e:Nat,q=st.js.length-e∧e≤st.js.length∧(st.js.take e).any lvB=false∧ρ'=[(0,s.v),(1,.func (.func 81) #[] #[]),(7,.int .i64 (s.n:Int)),(8,.int .i64 (e:Int))]∧Γ'=own s 86 1 (pts ps st.js)::BP b st ps::Γ) (m:=_) (⟨0,rfl,by omega,rfl,rfl,rfl⟩) ?_;rintro q ρ' Γ' ⟨e,hq,he,Vb,rfl,rfl⟩;refine ZY 5 ?_
 refine Zj ef (fun h1=>?_) (fun h1=>?_)
 ·refine S.Qp s (by omega) fun ib io hia _ _ _=>?_;obtain⟨x,hx⟩:=Yv (show e<st.js.length by omega);have Hd:st.js.take (e+1)=st.js.take e++[x]:=by rw[List.take_add_one,hx];rfl
  refine ZY 8 (ZY 5 (Zv (Zx (e) ef (hia) ef (by omega)) ?_));refine Zv (Zo (s) (e) ef (hia) (by rw[List.getElem?_map,hx];rfl)) ?_;refine Zp (S.Qpw (fs:=[]) (cs:=[]) (vs:=[_]) Eo.h rfl ⟨rfl,trivial⟩ (Q6y b st ps x (X3 hok.Yz (List.mem_of_getElem? hx))) rfl ?_);rintro v Θ ⟨rfl,rfl⟩;refine Zy ?_
  refine Zi ef (fun h2=>?_) (fun h2=>?_)
  ·refine ZY 6 ?_;exact Zf ef Zq (⟨⟨(e:Int),rfl,fun _=>List.any_eq_true.2 ⟨x,List.mem_of_getElem? hx,h2⟩,fun _=>by omega⟩,rfl⟩)
  ·have Ql7:(st.js.take (e+1)).any lvB=false:=by rw[Hd,List.any_append,Vb];simp only[List.any_cons,List.any_nil,Bool.or_false,Bool.false_or];exact h2
   refine ZY 2 (Zv (Za ef ef) (ZY 2 ?_));exact ZX (q-1) (⟨e+1,by omega,by omega,Ql7,rfl,rfl⟩) (by omega)
 ·rw[show e=st.js.length by omega,List.take_length]at Vb;refine ZY 6 ?_;exact Zf ef Zq (⟨⟨-1,rfl,fun h=>absurd h (by decide),fun h=>by rw[Vb]at h;cases h⟩,rfl⟩)
theorem Q3k(b:Nat)(st:Br)(ps:Nat→Nat)(s:SV)(Uj:s.n=st.js.length):Spec Tryz.prog 80 [s.v,.func (.func 81) #[] #[]] [own s 86 1 (pts ps st.js),BP b st ps] fun Γ v Θ=>
  v=.bool (st.js.any lvB)∧Θ=own s 86 1 (pts ps st.js)::BP b st ps::Γ:=by
 refine Zbd Tryz.func80 rfl Tryz.ntmps80 fun w0 Γ=>Zsh (ZY 8 (Zp (Zc1 Ze (Q7h b st ps s Uj) ?_)));rintro v Θ ⟨⟨z,rfl,hz⟩,rfl⟩;refine ZY 4 ?_;exact Zf ef Zq (⟨by show Value.bool (decide (0≤z))=_;congr 1;rw[Bool.eq_iff_iff,decide_eq_true_iff];exact hz,rfl⟩)
abbrev Cv(x:Bj):PR.It:=⟨x.id,x.tier,0⟩
abbrev quB(x:Bj):Bool:=decide (x.state=0)&&x.Qi.isNone
def wUp(l:List Bj):PR.HSt:=l.foldl (fun h x=>(PR.Hx (Cv x) h).2) (some [])
theorem Qth(st:Br):My st=PR.stL (wUp (st.js.filter quB)):=rfl
theorem Qti(l:List Bj)(x:Bj):wUp (l++[x])=(PR.Hx (Cv x) (wUp l)).2:=by rw[wUp,List.foldl_append];rfl
theorem Qnk(l:List Bj)(hl:Kp l):∃q,wUp l=some q∧q.Perm (l.map Cv):=by
 have key:∀(l m:List Bj) (q:List PR.It),Kp (m++l)→q.Perm (m.map Cv)→∃q',l.foldl (fun h x=>(PR.Hx (Cv x) h).2) (some q)=some q'∧q'.Perm ((m++l).map Cv):=by
  intro l;induction l with
  | nil=>exact fun m q _ hq=>⟨q,rfl,by rw[List.append_nil];exact hq⟩
  | cons x l ih=>
   intro m q hs hq
   have Qrt:PR.P1 (x.id:Int) q=false:=by
    unfold PR.P1;rw[List.any_eq_false];intro y hy;obtain⟨z,hz,e⟩:=List.mem_map.1 (hq.mem_iff.1 hy);have:=(List.pairwise_append.1 hs).2.2 z hz x (List.mem_cons_self ..);subst e;simp only[decide_eq_true_eq];omega
   have Zbp:(PR.Hx (Cv x) (some q)).2=some (PR.ins (Cv x) q):=by simp only[PR.Hx,Qrt];rfl
   have h2:(PR.ins (Cv x) q).Perm ((m++[x]).map Cv):=by
    refine(PR.N9 _ _).trans ?_;rw[List.map_append];exact(hq.cons _).trans (List.perm_append_singleton _ _).symm
   have:=ih (m++[x]) _ (by rw[List.append_assoc];exact hs) h2;rw[List.append_assoc]at this;rw[List.foldl_cons,Zbp];exact this
 exact key l [] [] hl (List.Perm.refl _)
theorem Ex{st:Br}(h:Kp st.js):(My st).Perm ((st.js.filter quB).map Cv):=by
 obtain⟨q,h1,h2⟩:=Qnk (st.js.filter quB) (h.filter _);rw[Qth,h1];exact h2
theorem Hb{st:Br}(h:Kp st.js){id:Nat}(hi:id∈Xd st):∃x,Qg st.js id=some x∧quB x=true:=by
 obtain⟨y,hy,e⟩:=List.mem_map.1 hi;obtain⟨x,hx,e2⟩:=List.mem_map.1 ((Ex h).mem_iff.1 hy);obtain⟨h1,h2⟩:=List.mem_filter.1 hx;subst e2;simp only[Int.toNat_natCast]at e;subst e;exact⟨x,X3 h h1,h2⟩
theorem Bd{st:Br}(h:Kp st.js):(Xd st).length≤st.js.length:=by
 rw[Xd,List.length_map,(Ex h).length_eq,List.length_map];exact List.length_filter_le _ _
theorem Cf{st:Br}(h:Kp st.js):(Xd st).Nodup:=by
 have h1:(Xd st).Perm ((st.js.filter quB).map (·.id)):=by
  have:=(Ex h).map fun x:PR.It=>x.id.toNat;rw[List.map_map]at this;exact this
 refine h1.nodup_iff.2 (List.pairwise_map.2 ((h.filter _).imp fun h=>?_));omega
abbrev wps(ps:Nat→Nat)(l:List Nat):List Value:=l.map fun id=>pt (ps id)
theorem Qi0{l:List Bj}(h:Kp l):PR.Cu (wUp l)=l.length:=by
 obtain⟨q,h1,h2⟩:=Qnk l h;rw[h1];show q.length=_;rw[h2.length_eq,List.length_map]
set_option maxHeartbeats 1000000 in
theorem Qda(b:Nat)(st:Br)(ps:Nat→Nat):Spec Tryz.prog 75 [pt b] [BP b st ps] fun Γ v Θ=>∃u:SV,v=u.v∧u.n=(Xd st).length∧Θ=own u 86 1 (wps ps (Xd st))::BP b st ps::Γ:=by
 refine Spec.Us fun hok=>?_;have B8:=hok.Ev;refine Zbd Tryz.func75 rfl Tryz.ntmps75 fun w0 Γ=>Zsh (ZY 6 (Zp (Zc1 Ze (PR.Q9h) ?_)));rintro v Θ ⟨pa,rfl,rfl⟩;refine ZY 6 (Zp (Zc1 Ze (Qck b st ps) ?_));rintro v Θ ⟨jv,rfl,hjv,rfl⟩;refine S.Yf jv fun Pz Gq Si=>?_;have hmx:maxLen≤9223372036854775807:=by unfold maxLen;omega
 refine ZY 4 ?_;refine Zl (fun fz ρ' Γ'=>∃(e:Nat) (h:PR.HSt),fz=st.js.length-e∧e≤st.js.length∧h=wUp ((st.js.take e).filter quB)∧ρ'=[(0,pt b),(3,.pointer pa),(11,jv.v),(12,.int .i64 (jv.n:Int)),(13,.int .i64 (e:Int))]∧Γ'=own jv 86 1 (pts ps st.js)::PR.HI pa h::BP b st ps::Γ) (m:=_) (⟨0,some [],rfl,by omega,rfl,rfl,rfl⟩) ?_;rintro fz ρ' Γ' ⟨e,h,hfz,he,hh,rfl,rfl⟩;refine ZY 5 ?_
 refine Zj ef (fun h1=>?_) (fun h1=>?_)
 ·refine S.Qp jv (by omega) fun sb so Q4 _ _ _=>?_;obtain⟨x,hx⟩:=Yv (show e<st.js.length by omega);have Ub:Qg st.js x.id=some x:=X3 hok.Yz (List.mem_of_getElem? hx);have Y5:=hok.at_ Ub;have Uj:=fun v (hv:quB x=v)=>fsnoc (p:=quB) hx v hv;refine S.Wv b st ps x Ub fun ub jb mb ov iv dv mv sb l i av lb db rb qb hF hi Q5 Ld hJ=>?_;have D7:=Pn hJ.d;refine ZY 5 (Zv (Zx (e) ef (Q4) ef (by omega)) ?_);refine Zv (Zo (jv) (e) ef (Q4) (by rw[List.getElem?_map,hx];rfl)) ?_;refine ZY 8 (ZY 3 ?_)
  refine Zb 23 ef (fun hg5_6=>?_) (fun hg5_6=>?_)
  ·refine ZY 4 (Zvg ef ef ef (Ky Tryz.underlying81 rfl rfl) (ZY 2 ?_))
   refine Zi ef (fun h2=>?_) (fun h2=>?_)
   ·have hh2:(PR.Hx (Cv x) h).2=wUp ((st.js.take (e+1)).filter quB):=by rw[Uj true (by rw[quB,decide_eq_true (show x.state=0 by omega),←D7,h2];rfl)];simp only[if_true];rw[Qti,hh]
    have hlh:PR.Cu h≤999:=by
     rw[hh,Qi0 ((hok.Yz.sublist (List.take_sublist _ _)).filter _)];have:=List.length_filter_le quB (st.js.take e);rw[List.length_take]at this;omega
    refine Zd ([blk (ps x.id) 90 (bjC x av lb db rb qb).toArray]) [] (Zra 0 12) (ZY 8 (ZY 3 ?_));refine Zw ef (Q3 (pvs:=[(_,_),(_,_)]) [_,_,_] Tryz.z183.h Tryz.Zep.h ⟨⟨rfl,rfl⟩,⟨rfl,rfl⟩,trivial⟩ rfl) ?_;refine Z1 (i:=12) ef ef ?_;refine  (Zcp Ze (PR.Q39 pa h (Cv x) hlh) ?_);refine Zk [] ?_;refine ZD (Zy (S.Qn b st ps ub jb mb ov iv dv mv sb l i x av lb db rb qb hi rfl (Q5 x rfl) (hF.set Y5) hJ ?_));rw[Qq hok Ub];refine Zv (Za ef ef) (ZY 2 ?_);first|exact ZX (fz-1) ⟨e+1,_,by omega,by omega,hh2,rfl,rfl⟩ (by omega)|exact ZX (fz-1) ⟨e+1,(PR.Hx (Cv x) h).2,by omega,by omega,hh2,rfl,rfl⟩ (by omega)|exact ZX (fz-1) ⟨e+1,h,by omega,by omega,hh2,rfl,rfl⟩ (by omega)
   ·have hh2:h=wUp ((st.js.take (e+1)).filter quB):=by first|exact hh2|(rw[Uj false (by rw[quB,←D7,h2,Bool.and_false])];simpa using hh)
    refine ZY 2 (S.Qn b st ps ub jb mb ov iv dv mv sb l i x av lb db rb qb hi rfl (Q5 x rfl) (hF.set Y5) hJ ?_);rw[Qq hok Ub];refine Zv (Za ef ef) (ZY 2 ?_);first|exact ZX (fz-1) ⟨e+1,_,by omega,by omega,hh2,rfl,rfl⟩ (by omega)|exact ZX (fz-1) ⟨e+1,(PR.Hx (Cv x) h).2,by omega,by omega,hh2,rfl,rfl⟩ (by omega)|exact ZX (fz-1) ⟨e+1,h,by omega,by omega,hh2,rfl,rfl⟩ (by omega)
  ·have hh2:h=wUp ((st.js.take (e+1)).filter quB):=by rw[Uj false (by rw[quB,decide_eq_false (show ¬x.state=0 by omega)];rfl)];simpa using hh
   refine ZY 8 (ZY 2 (S.Qn b st ps ub jb mb ov iv dv mv sb l i x av lb db rb qb hi rfl (Q5 x rfl) (hF.set Y5) hJ ?_));rw[Qq hok Ub];refine Zv (Za ef ef) (ZY 2 ?_);first|exact ZX (fz-1) ⟨e+1,_,by omega,by omega,hh2,rfl,rfl⟩ (by omega)|exact ZX (fz-1) ⟨e+1,(PR.Hx (Cv x) h).2,by omega,by omega,hh2,rfl,rfl⟩ (by omega)|exact ZX (fz-1) ⟨e+1,h,by omega,by omega,hh2,rfl,rfl⟩ (by omega)
 ·rw[show st.js.take e=st.js by rw[show e=st.js.length by omega,List.take_length]]at hh;have hq:My st=PR.stL h:=by rw[hh];rfl
  have hqp:=Ex hok.Yz;have hql:=Bd hok.Yz;have hwl:(Xd st).length=(My st).length:=List.length_map ..;refine ZY 3 ?_;refine S.Qh (show Ent _ (own SV.nil 86 1 (wps ps [])::_) from Ent.Ye 86 1) (ZY 6 ?_);refine Zp (Zc1 Ze (PR.Q9e pa h (by rw[hh,Qi0 (hok.Yz.filter _)];exact Nat.le_trans (List.length_filter_le _ _) B8)) ?_);rintro v Θ ⟨u,rfl,rfl⟩;rw[←hq];refine S.Yf u fun hu1 hu2 hu3=>?_;rw[Z3 PR.Kt]at hu1;refine ZY 4 ?_;refine Zl (fun fz ρ' Γ'=>∃(e:Nat) (us:List Nat) (o:SV),fz=(My st).length-e∧e≤(My st).length∧us=(Xd st).take e∧o.n=e∧ρ'=[(0,pt b),(6,o.v),(45,u.v),(46,.int .i64 (u.n:Int)),(47,.int .i64 (e:Int))]∧Γ'=own o 86 1 (wps ps us)::own u 183 3 ((My st).flatMap PR.itC)::BP b st ps::Γ) (m:=_) (⟨0,[],SV.nil,rfl,by omega,rfl,rfl,rfl,rfl⟩) ?_;rintro fz ρ' Γ' ⟨e,us,o,hfz,he,hus,hon,rfl,rfl⟩;refine ZY 5 ?_
  refine Zj ef (fun h3=>?_) (fun h3=>?_)
  ·refine S.Qp u (by omega) fun sb so Q4 _ _ _=>?_;obtain⟨y,hy⟩:=Yv (show e<(My st).length by omega);obtain⟨x,hx,hxe⟩:=List.mem_map.1 (hqp.mem_iff.1 (List.mem_of_getElem? hy));subst hxe;have hwr:(Xd st)[e]?=some x.id:=by rw[Xd,List.getElem?_map,hy];rfl
   have Ub:Qg st.js x.id=some x:=X3 hok.Yz (List.mem_filter.1 hx).1;refine S.Xx b st ps fun ub jb mb ov iv dv mv sb l hF=>?_;have J0:Q1 (x.id:Int) l=some (pt (ps x.id)):=by rw[Wn hok.Yz hF.perm,Ub];rfl
   refine ZY 5 (Zv (Zx (e) ef (Q4) ef (by omega)) ?_);refine Zv (X4 (u) (e*3) [_,_,_] Eo.h rfl Q4 (by first|rfl|exact Nat.add_assoc _ _ _|omega) rfl (Y8 (enc:=PR.itC) (sz:=3) (fun _=>rfl) hy)) (Zp (S.alloc Tryz.z183.h rfl ?_));intro b8;refine Zp (Zs ef ef (cs':=[_,_,_]) ef (Zy ?_));refine Zd ([blk b8 183 (PR.itC (Cv x)).toArray,blk b 84 (bC st ub jb mb ov iv dv mv sb).toArray,Qk jb .u32 l]) [9] (Zra 0 8) (ZY 7 ?_);refine Zw ef (Qj (pt (ps x.id)) Tryz.underlying82 Tryz.underlying31 Tryz.Ud.h rfl rfl rfl (by rw[J0];rfl)) ?_;refine Z1 (i:=8) ef ef ?_;refine(S.buildSlice (pvs:=[(_,_)]) [_] Tryz.underlying99 Tryz.Qpb.h rfl rfl ⟨⟨rfl,rfl⟩,trivial⟩ rfl rfl ?_);intro b59;refine Zk [] ?_;refine Z1 (i:=9) ef ef ?_;refine(S.Qu (s:=o) (1) (wps ps [x.id]) Tryz.underlying99 Tryz.Qpb.h rfl rfl rfl (Qy (b:=b59) rfl (by unfold maxLen;omega)) (by first|rfl|exact Ql _) (⟨by omega,by omega⟩) rfl ?_);intro o2 ho2;refine ZL ([]) [10] (Zy ?_);refine ZD (Zy ?_);rw[show wps ps us++wps ps [x.id]=wps ps (us++[x.id]) from List.map_append.symm];refine S.Q6 b st ps ub jb mb ov iv dv mv sb l hF (Zv (Za ef ef) (ZY 2 ?_));exact ZX (fz-1) (⟨e+1,us++[x.id],o2,by omega,by omega,by rw[List.take_add_one,hwr,hus];rfl,by omega,rfl,rfl⟩) (by omega)
  ·rw[show (Xd st).take e=Xd st by rw[show e=(Xd st).length by omega,List.take_length]]at hus;refine ZY 7 ?_;subst hus;exact Zf ef Zq (⟨o,rfl,by omega,rfl⟩)
section
variable {P:Program}{n:Nat}{ρ:Env}{Γ Δ:List Assn}{ty:TypeId}{pos:String}{af:Array Edge}{gd:Option (Nat×Bool)}{ds:Option Tmp}
theorem Qut(b:Nat)(st:Br)(ps:Nat→Nat){x:Bj}(hx:Qg st.js x.id=some x)[p:Pick (BP b st ps) Γ Δ]{t o:Nat}{y:Operand}{v:Value}(ht:J3 P t=true)(hy:ev ρ y=some (.pointer (some ⟨ps x.id,o,none⟩)))(hv:∀av lb db rb sb,lg (bjC x av lb db rb sb) o=some v) :
  Qv P n ρ Γ ⟨ds,.load t y,ty,pos,af,gd⟩ v:=fun a w ha hs=>
 (S.Wv (n:=n) (w0:=(⟨w⟩:WM false)) (φ:=fun a w=>(execOp a.eval ⟨ds,.load t y,ty,pos,af,gd⟩).run P w=.ok (.value v) w) b st ps x hx fun ub jb mb ov iv dv mv sb l i av lb db rb qb _ _ _ _ _=>
  fun a w ha hs _=>Kx ht hy (by simpa using hv av lb db rb qb) a w ha hs) a w ha hs (Ext.refl _)
end
abbrev N4(x:Bj)(ns:List Nat):Bj:={x with at_:=ns,Y4:=some [],state:=1}
theorem JOk.N4{N:Nat}{x:Bj}(h:JOk N x){ns:List Nat}(h1:ns.Pairwise (· < ·))(h2:∀i∈ns,i<N)(hs:x.Yt=none):JOk N (N4 x ns):=⟨h.B6,h.Al,h.tier,h.k1,h.kn,h.w,h.cr,h.wk,h1,h2,h.drop,fun d hd=>(by cases hd;exact List.nodup_nil),h.ran,fun _=>rfl,fun s h9=>by
 have h9:x.Yt=some s:=h9;rw[hs]at h9;cases h9⟩
theorem Qog(m:Mx)(j:Nat)(z:Int)(l:List Int):(X7 m j z l).2.N=m.N∧(X7 m j z l).2.R=m.R∧(X7 m j z l).2.up=m.up:=by
 unfold X7
 split
 ·exact⟨rfl,rfl,rfl⟩
 split
 ·exact⟨rfl,rfl,rfl⟩
 split <;> exact⟨rfl,rfl,rfl⟩
theorem Bm{m:Mx}{j:Nat}{z:Int}{l:List Int}(h:(X7 m j z l).1=0):Kk m l l.length=true∧0<l.length∧look m.js j=none∧(X7 m j z l).2=m.add ⟨j,z.toNat,ofL (nats l)⟩:=by
 unfold X7 at h ⊢
 split at h
 ·cases h
 rename_i h1;have h1:(Wc m j z l&&Kk m l l.length)=true:=by simpa using h1
 split at h
 ·cases h
 rename_i h2
 split at h
 ·cases h
 rename_i h3;rw[if_neg (by rw[h1];decide),if_neg h2,if_neg h3];rw[Bool.and_eq_true,Wc,Bool.and_eq_true,Bool.and_eq_true,decide_eq_true_eq,decide_eq_true_eq]at h1;exact⟨h1.2,by omega,by cases hl:look m.js j with|none=>rfl|some x=>rw[hl]at h2;simp at h2,rfl⟩
theorem Q7.Qov{st:Br}(h:Q7 st){m:Mx}(hm:Xk m)(h1:m.N=st.m.N)(h2:m.R=st.m.R):Q7 {st with m:=m}:=⟨h2.trans h.R,h1.trans h.N,hm,h.Yz,fun x hx=>h.Qm x hx,h.Ev,h.q1,h.q2,h.g1,h.g2,h.now,h.fin,h.mem,h.Eu⟩
theorem U5{st:Br}{x:Bj}{s:PL.St}(h:(X7 st.m x.id s.row s.nodes).1≠0):V3 st x s={st with m:=(X7 st.m x.id s.row s.nodes).2}:=by rw[V3,if_pos h]
theorem V2{st:Br}{x:Bj}{s:PL.St}(h:¬(X7 st.m x.id s.row s.nodes).1≠0):V3 st x s=Br.set {st with m:=(X7 st.m x.id s.row s.nodes).2,Qa:=st.Qa++Wk x (nats s.nodes)} (N4 x (nats s.nodes)):=by rw[V3,if_neg h]
theorem Qiw{st:Br}(h:Q7 st){x:Bj}{s:PL.St}(hx:JOk st.nodes x)(hs:x.Yt=none):Q7 (V3 st x s):=by
 have hm:=Qof h.Hu hx.Al s.row s.nodes;obtain⟨n1,n2,_⟩:=Qog st.m x.id s.row s.nodes
 by_cases hp:(X7 st.m x.id s.row s.nodes).1≠0
 ·rw[U5 hp];exact h.Qov hm n1 n2
 ·rw[V2 hp];obtain⟨q1,q2,q3,q4⟩:=Bm (Classical.byContradiction hp);obtain⟨r1,r2⟩:=Ea q1;exact((h.Qov hm n1 n2).oset _).set (x:=BN.N4 x (nats s.nodes)) (hx.N4 r1 (fun i hi=>by rw[←h.N];exact r2 i hi) hs)
theorem Qbi(st:Br){x:Bj}(s:PL.St){id:Nat}(h:id≠x.id):Qg (V3 st x s).js id=Qg st.js id:=by
 by_cases hp:(X7 st.m x.id s.row s.nodes).1≠0
 ·rw[U5 hp]
 ·rw[V2 hp];exact Hz {st with m:=(X7 st.m x.id s.row s.nodes).2,Qa:=st.Qa++Wk x (nats s.nodes)} (x:=N4 x (nats s.nodes)) h
theorem Qix(x:Bj)(ns:List Nat):(Wk x ns).length=ns.length:=by simp[Wk]
theorem Bk{l:List Nat}(h:l.Pairwise (· < ·)){N:Nat}(h2:∀i∈l,i<N):l.length≤N:=Qa9 (h.imp fun h e=>by omega) h2
theorem Qv1{st:Br}(h:Q7 st)(x:Bj)(s:PL.St):(V3 st x s).Qa.length≤st.Qa.length+16:=by
 by_cases hp:(X7 st.m x.id s.row s.nodes).1≠0
 ·rw[U5 hp];exact Nat.le_add_right ..
 ·rw[V2 hp];obtain⟨q1,q2,q3,q4⟩:=Bm (Classical.byContradiction hp);obtain⟨r1,r2⟩:=Ea q1;have:=Bk r1 r2;have:=h.Hu.Bz;show (st.Qa++Wk x (nats s.nodes)).length≤_;rw[List.length_append,Qix];omega
theorem Qq4{m:Mx}{l:List Int}(h:Kk m l l.length=true):ints l=nds (nats l):=by
 show l.map (Value.int .i64)=(l.map Int.toNat).map nv;rw[List.map_map];refine List.map_congr_left fun z hz=>?_;obtain⟨i,hi,e⟩:=List.getElem_of_mem hz;have h1:=Ws.1 (Bq h (i:=i) hi).1;simp only[List.getD,List.getElem?_eq_getElem hi,Option.getD_some,e]at h1;show Value.int .i64 z=Value.int .i64 ((z.toNat:Nat):Int)
 congr 1
 omega
theorem Qf8(x:Bj){ns:List Nat}{e y:Nat}(h:ns[e]?=some y):Wk x (ns.take (e+1))=Wk x (ns.take e)++[(y,{kind:=3,Qm:=x.id,ver:=x.ver,Qt:=e,Qb:=x.Qb})]:=by
 have hl:e<ns.length:=(List.getElem?_eq_some_iff.1 h).1;rw[List.take_add_one,h];unfold Wk;rw[List.mapIdx_append,List.length_take,Nat.min_eq_left (by omega)];simp
set_option maxHeartbeats 1000000 in
theorem Q69(b:Nat)(st:Br)(ps:Nat→Nat)(x:Bj)(s:PL.St)(sv:SV)(R:Assn)(hx:Qg st.js x.id=some x)(hs:x.Yt=none)(Uj:sv.n=s.nodes.length)(hsl:s.nodes.length≤1000)(hR:RdS R sv sv.n 1 (ints s.nodes))(hl:st.Qa.length≤900000) :
  Spec Tryz.prog 79 [pt b,pt (ps x.id),.agg (PL.stC sv s).toArray] [BP b st ps,R] fun Γ _ Θ=>Θ=BP b (V3 st x s) ps::R::Γ:=by
 refine Spec.Us fun hok=>?_;have Y5:=hok.at_ hx;have hN:=hok.Bz;have Zfx:=Qof hok.Hu Y5.Al s.row s.nodes;obtain⟨n1,n2,_⟩:=Qog st.m x.id s.row s.nodes;have Q7w:=hok.Qov Zfx n1 n2;refine Zbd Tryz.func79 rfl Tryz.ntmps79 fun w0 Γ=>Zsh ?_;refine S.Wv b st ps x hx fun ub jb mb ov iv dv mv sb l i av lb db rb qb hF hi Q5 Ld hJ=>(ZY 2 (Zp (S.box (cs:=[_,_,_,_]) rfl rfl rfl ?_)));intro b5;refine ZY 3 ?_;refine Zd ([blk (ps x.id) 90 (bjC x av lb db rb qb).toArray,blk b 84 (bC st ub jb mb ov iv dv mv sb).toArray,blk b5 146 (PL.stC sv s).toArray]) [] (Zra 0 13) (ZY 8 (ZY 5 ?_));refine Z1 (i:=13) ef ef ?_;refine  (Zcp Ze (Go.Proofs.YtdackcibfkkniaaGreatDoor.Qza mb st.m x.id s.row R sv s.nodes Uj hR Y5.Al) ?_);refine Zk [14] (Zy ?_);refine ZD ?_
 refine Zj ef (fun h1=>?_) (fun h1=>?_)
 ·have hg:=U5 (st:=st) (x:=x) (s:=s) h1;refine Zy (S.sub (jX (ps x.id) x av lb db rb qb (bR b {st with m:=(X7 st.m x.id s.row s.nodes).2} ps ub jb mb ov iv dv mv sb l i (R::Γ))) ?_);refine S.Qn b {st with m:=(X7 st.m x.id s.row s.nodes).2} ps ub jb mb ov iv dv mv sb l i x av lb db rb qb hi rfl (Q5 x rfl) (BF.set (st:={st with m:=(X7 st.m x.id s.row s.nodes).2}) ⟨Q7w,hF.perm,hF.on,hF.im,hF.dn,hF.mn,hF.sn⟩ Y5) hJ ?_;rw[Qq (st:={st with m:=(X7 st.m x.id s.row s.nodes).2}) Q7w hx];exact Zf ef Zq (by rw[hg])
 ·have hg:=V2 (st:=st) (x:=x) (s:=s) h1;obtain⟨q1,q2,q3,q4⟩:=Bm (Classical.byContradiction h1);obtain⟨r1,r2⟩:=Ea q1;have hni:=Qq4 q1;have hnl:(nats s.nodes).length=s.nodes.length:=List.length_map ..;have hrl:=Bk r1 r2;have Zlb:=hok.Hu.Bz;obtain⟨x1,Z4⟩:∃x1:Bj,x1=N4 x (nats s.nodes):=⟨_,rfl⟩;have Dy:JOk st.nodes x1:=by rw[Z4];exact Y5.N4 r1 (fun i hi=>by rw[←hok.N];exact r2 i hi) hs
  have hid:x1.id=x.id:=by rw[Z4]
  refine ZY 8 ?_;refine Zp (Zc1 Ze (PL.Qp4 R sv s.nodes hsl (by rw[←Uj];exact hR)) ?_);rintro v Θ ⟨u,rfl,rfl⟩;rw[hni];refine S.Yf u fun hu1 hu2 hu3=>?_;rw[List.length_map]at hu1;refine Zp (S.makeMap .i64 rfl ?_);intro b29;refine ZY 8 (ZY 5 ?_);refine S.Yw (ps x.id) (bjC x1 u (some b29) db rb qb).toArray (by rw[Z4];rfl) (ZY 8 ?_);refine Zl (fun fz ρ' Γ'=>∃(e:Nat) (os:List Od) (ov2:SV),fz=(nats s.nodes).length-e∧e≤(nats s.nodes).length∧os=st.Qa++Wk x ((nats s.nodes).take e)∧ov2.n=os.length∧os.length=st.Qa.length+e∧ρ'=[(0,pt b),(1,pt (ps x.id)),(40,u.v),(41,.int .i64 (u.n:Int)),(42,.int .i64 (e:Int))] ∧   Γ'=blk (ps x.id) 90 (bjC x1 u (some b29) db rb qb).toArray::Qk b29 .i64 []::own u 3 1 (nds (nats s.nodes))::R::Xz db x.Qi::Dd rb x.ran::Ue qb x.id x.Yt::blk b 84 (bC st ub jb mb ov2 iv dv mv sb).toArray::Qk ub .i64 (Xy st.up)::Qk jb .u32 l::jT ps st.js i::jD ps st.js i::MI mb (X7 st.m x.id s.row s.nodes).2::own ov2 97 14 (os.flatMap odC)::imgs iv st.Qe::own dv 31 1 (Q9 st.done)::own mv 31 1 (Q9 st.members)::Xz sb st.stops::Γ) (m:=_) (⟨0,st.Qa,ov,rfl,by omega,by simp[Wk],hF.on,rfl,rfl,rfl⟩) ?_;rintro fz ρ' Γ' ⟨e,os,ov2,hfz,he,hos,Wf,hol,rfl,rfl⟩;refine ZY 5 ?_
  refine Zj ef (fun h2=>?_) (fun h2=>?_)
  ·refine S.Qp u (by omega) fun ab ao haa _ _ _=>?_;obtain⟨y,hy⟩:=Yv (show e<(nats s.nodes).length by omega);have Ei:os++[((y,{kind:=3,Qm:=x.id,ver:=x.ver,Qt:=e,Qb:=x.Qb}):Od)]=st.Qa++Wk x ((nats s.nodes).take (e+1)):=by rw[hos,Qf8 x hy,List.append_assoc]
   have e1:x1.id=x.id∧x1.ver=x.ver∧x1.Qb=x.Qb:=by rw[Z4];exact⟨rfl,rfl,rfl⟩
   refine ZY 6 (Zv (Zx (e) ef (haa) ef (by omega)) ?_);refine Zv (Zo (u) (e) ef (haa) (by rw[List.getElem?_map,hy];rfl)) ?_;refine ZY 3 ?_;refine Zd ([blk (ps x.id) 90 (bjC x1 u (some b29) db rb qb).toArray]) [] (Zra 0 19) (ZY 8 (ZY 4 ?_));refine Zw ef (Xw Tryz.it5.h (by rw[Tryz.underlying3];rfl) rfl (Q7f (by omega) (by omega))) (ZY 5 ?_);refine Zw ef (Q3 (pvs:=[(_,_),(_,_),(_,_),(_,_),(_,_)]) [_,_,_,_,_,_,_,_,_,_,_,_,_] Tryz.z72.h Tryz.p72.h ⟨⟨rfl,rfl⟩,⟨rfl,rfl⟩,⟨rfl,rfl⟩,⟨rfl,rfl⟩,⟨rfl,rfl⟩,trivial⟩ rfl) ?_;refine Z1 (i:=19) ef ef ?_;rw[e1.1,e1.2.1,e1.2.2];refine  (Zc1 Ze (Fg b st ub jb mb ov2 iv dv mv sb y {kind:=3,Qm:=x.id,ver:=x.ver,Qt:=e,Qb:=x.Qb} os Wf (by omega)) ?_);rintro v Θ ⟨ov3,D5,rfl⟩;refine Zk [] ?_;refine ZD (Zy (Zv (Za ef ef) (ZY 2 ?_)));exact ZX (fz-1) (⟨e+1,os++[((y,{kind:=3,Qm:=x.id,ver:=x.ver,Qt:=e,Qb:=x.Qb}):Od)],ov3,by omega,by omega,Ei,D5,by rw[List.length_append,List.length_singleton];omega,rfl,rfl⟩) (by omega)
  ·rw[show (nats s.nodes).take e=nats s.nodes by rw[show e=(nats s.nodes).length by omega,List.take_length]]at hos;refine Zy ?_;refine S.conv (Qk b29 .i64 []) (show Ent _ (Xz (some b29) (some [])::_) from Ent.Qcv (s:=some []) rfl _) ?_;refine S.sub (jX (ps x.id) x1 u (some b29) db rb qb (bR b {st with m:=(X7 st.m x.id s.row s.nodes).2,Qa:=os} ps ub jb mb ov2 iv dv mv sb l i (R::Γ))) (e:=by subst Z4;infer_instance) ?_;refine S.Qn b {st with m:=(X7 st.m x.id s.row s.nodes).2,Qa:=os} ps ub jb mb ov2 iv dv mv sb l i x1 u (some b29) db rb qb hi hid (Q5 x1 hid) (BF.set (st:={st with m:=(X7 st.m x.id s.row s.nodes).2,Qa:=os}) ⟨Q7w.oset os,hF.perm,Wf,hF.im,hF.dn,hF.mn,hF.sn⟩ Dy) ⟨by rw[Z4];show u.n=(nats s.nodes).length;omega,by rw[Z4];rfl,by rw[Z4];exact hJ.d,by rw[Z4];exact hJ.r,by rw[Z4];exact hJ.s⟩ ?_;exact Zfn ef Zq (by rw[hg,←hos,←Z4])
theorem S.Qoj{n:Nat}{md:Bool}{w0:WM md}{ρ:Env}{Γ:List Assn}{φ:Act→World→Prop}(s:SV){e:TypeId}{sz:Nat}{xs:List Value}(xs':List Value){Δ:List Assn}[h:Wx Γ s e sz xs Δ](hx:xs=xs')(k:S n w0 ρ (own s e sz xs'::Δ) φ):S n w0 ρ Γ φ:=S.Qh h.Qh (by subst hx;exact k)
theorem Qav{st:Br}{r n:Nat}(h:V9 st.m n=false):Wh st r n=1099511627776:=by simp only[Wh];rw[if_neg (by rw[h];simp)]
theorem Qlo{st:Br}{r n:Nat}(h:V9 st.m n=true)(hg:Qg st.js (atR st.m r n)=none):Wh st r n=0:=by simp only[Wh];rw[if_pos h,hg]
theorem Qln{st:Br}{r n:Nat}{x:Bj}(h:V9 st.m n=true)(hg:Qg st.js (atR st.m r n)=some x):Wh st r n=max 1 ((Cu st x:Nat):Int):=by simp only[Wh];rw[if_pos h,hg]
abbrev Zal(st:Br)(r:Nat):List Int:=(List.range st.nodes).map fun n:Nat=>Wh st r n
abbrev Q6w(st:Br)(r n:Nat):List Int:=(List.range n).map fun n:Nat=>Wh st r n
theorem Qau(st:Br):Af st=(List.range st.rows).map (Zal st):=rfl
def Ap(st:Br)(r n:Nat)(rs:List PL.RW):Prop:=rs.length=st.rows∧∀(i:Nat) (w:PL.RW),rs[i]?=some w→w.d=if i<r then Zal st i else if i=r then Q6w st r n else []
theorem Ap.all{st:Br}{rs:List PL.RW}(h:Ap st st.rows 0 rs):PL.dat rs=Af st:=by
 refine List.ext_getElem? fun i=>?_;rw[Qau,List.getElem?_map,List.getElem?_map]
 by_cases hi:i<st.rows
 ·rw[List.getElem?_range hi];obtain⟨w,hw⟩:=Yv (show i<rs.length by rw[h.1];exact hi);rw[hw,Option.map_some,Option.map_some,h.2 i w hw,if_pos hi]
 ·rw[List.getElem?_eq_none (by rw[h.1];omega),List.getElem?_eq_none (by rw[List.length_range];omega)];rfl
theorem Ap.row{st:Br}{r:Nat}{rs:List PL.RW}(h:Ap st r st.nodes rs):Ap st (r+1) 0 rs:=⟨h.1,fun i w hw=>by
 rw[h.2 i w hw]
 by_cases h1:i<r
 ·rw[if_pos h1,if_pos (by omega)]
 ·rw[if_neg h1]
  by_cases h2:i=r
  ·subst h2;rw[if_pos rfl,if_pos (by omega)]
  ·rw[if_neg h2,if_neg (by omega)]
   by_cases h3:i=r+1
   ·rw[if_pos h3];rfl
   ·rw[if_neg h3]⟩
theorem Ap.cell{st:Br}{r n:Nat}{rs:List PL.RW}(h:Ap st r n rs){w:PL.RW}(hr:rs[r]?=some w)(v:SV):Ap st r (n+1) (rs.set r ⟨v,w.d++[Wh st r n]⟩):=⟨by rw[List.length_set];exact h.1,fun i u hu=>by
 rw[List.getElem?_set]at hu
 by_cases e:r=i
 ·subst e;rw[if_pos rfl,if_pos (List.getElem?_eq_some_iff.1 hr).1,Option.some.injEq]at hu;rw[←hu,if_neg (Nat.lt_irrefl _),if_pos rfl];show w.d++[Wh st r n]=_;rw[h.2 r w hr,if_neg (Nat.lt_irrefl _),if_pos rfl,Q6w,Q6w,List.range_succ,List.map_append];rfl
 ·rw[if_neg e]at hu;rw[h.2 i u hu]
  by_cases h1:i<r
  ·rw[if_pos h1,if_pos h1]
  ·rw[if_neg h1,if_neg h1,if_neg (by omega),if_neg (by omega)]⟩
theorem Qkx(m:Nat):Yx [.slice none 0 0] m=(List.replicate m (⟨SV.nil,[]⟩:PL.RW)).flatMap PL.rwC:=by
 induction m with
 | zero=>rfl
 | succ m ih=>rw[List.replicate_succ,List.flatMap_cons,←ih];rfl
theorem Qy1(m:Nat)(Γ:List Assn):Ent Γ (alls (List.replicate m (⟨SV.nil,[]⟩:PL.RW)) PL.rwB::Γ):=by
 induction m with
 | zero=>exact Ent.Jv _ _
 | succ m ih=>
  rw[List.replicate_succ];exact(ih.trans (show Ent _ (PL.rwB (⟨SV.nil,[]⟩:PL.RW)::_) from Ent.Ye 3 1)).trans (Ent.Gy PL.rwB _ _ _)
theorem Qff(rs:List PL.RW)(i:Nat)(w:PL.RW):(rs.flatMap PL.rwC).set (i*1) w.v.v=(rs.set i w).flatMap PL.rwC:=by
 have e:∀l:List PL.RW,l.flatMap PL.rwC=l.map fun r=>r.v.v:=fun l=>by
  induction l with
  | nil=>rfl
  | cons x l ih=>rw[List.flatMap_cons,ih];rfl
 rw[e,e,List.map_set,Nat.mul_one]
theorem Qfg{rs:List PL.RW}{i:Nat}{w:PL.RW}(h:rs[i]?=some w):(rs.flatMap PL.rwC)[i]?=some w.v.v:=by
 have e:∀l:List PL.RW,l.flatMap PL.rwC=l.map fun r=>r.v.v:=fun l=>by
  induction l with
  | nil=>rfl
  | cons x l ih=>rw[List.flatMap_cons,ih];rfl
 rw[e,List.getElem?_map,h];rfl
set_option maxHeartbeats 2000000 in
theorem Qqu(b:Nat)(st:Br)(ps:Nat→Nat):Spec Tryz.prog 78 [pt b] [BP b st ps] fun Γ v Θ=>∃(s:SV) (rs:List PL.RW),v=s.v∧PL.dat rs=Af st∧Θ=PL.prof s rs::BP b st ps::Γ:=by
 refine Spec.Us fun hok=>?_;have hN:=hok.Bz;have Sl:st.rows≤8:=by have:=hok.Hu.R8;rw[hok.R]at this;exact this
 refine Zbd Tryz.func78 rfl Tryz.ntmps78 fun w0 Γ=>Zsh ?_;refine S.Xx b st ps fun ub jb mb ov iv dv mv sb l hF=>(ZY 8 (ZY 3 (Zp (S.makeSlice (st.rows) (st.rows) Tryz.underlying143 Tryz.Q4t.h rfl rfl rfl rfl rfl (by omega) (by omega) rfl ?_))));intro o ho;refine ZY 5 (S.Q6 b st ps ub jb mb ov iv dv mv sb l hF ?_);rw[Qkx];refine S.Qh (Qy1 st.rows _) (ZY 5 ?_);refine Zl (fun fz ρ' Γ'=>∃(r:Nat) (rs:List PL.RW),fz=st.rows-r∧r≤st.rows∧Ap st r 0 rs∧ρ'=[(0,pt b),(3,o.v),(15,.int .i64 (o.n:Int)),(16,.int .i64 (r:Int))]∧Γ'=own o 66 1 (rs.flatMap PL.rwC)::alls rs PL.rwB::BP b st ps::Γ) (m:=_) (⟨0,List.replicate st.rows ⟨SV.nil,[]⟩,rfl,by omega,⟨List.length_replicate ..,fun i w hw=>by obtain⟨_,e⟩:=List.getElem?_eq_some_iff.1 hw;rw[List.getElem_replicate]at e;rw[←e];split;(rename_i h;exact absurd h (Nat.not_lt_zero _));split <;> rfl⟩,rfl,rfl⟩) ?_;rintro fz ρ' Γ' ⟨r,rs,hfz,hr,B7,rfl,rfl⟩;refine ZY 5 ?_
 refine Zj ef (fun h1=>?_) (fun h1=>?_)
 ·refine S.Xx b st ps fun ub jb mb ov iv dv mv sb l hF=>(ZY 8 (ZY 7 (S.Q6 b st ps ub jb mb ov iv dv mv sb l hF (ZY 3 ?_))));refine Zl (fun fy ρ' Γ'=>∃(n:Nat) (rs:List PL.RW),fy=st.nodes-n∧n≤st.nodes∧Ap st r n rs∧ρ'=[(0,pt b),(3,o.v),(4,.int .i64 (r:Int)),(15,.int .i64 (o.n:Int)),(16,.int .i64 (r:Int)),(23,.int .i64 (st.nodes:Int)),(24,.int .i64 (n:Int))]∧Γ'=own o 66 1 (rs.flatMap PL.rwC)::alls rs PL.rwB::BP b st ps::Γ) (m:=_) (⟨0,rs,rfl,by omega,B7,rfl,rfl⟩) ?_;rintro fy ρ' Γ' ⟨n,rs,hfy,hn,B7,rfl,rfl⟩;refine ZY 5 ?_
  refine Zj ef (fun h2=>?_) (fun h2=>?_)
  ·refine S.Qp o (by omega) fun ib io hia _ _ _=>?_;obtain⟨w,hw⟩:=Yv (show r<rs.length by rw[B7.1];omega);have Uw:=B7.cell hw;refine S.Xx b st ps fun ub jb mb ov iv dv mv sb l hF=>(ZY 8 (ZY 6 ?_))
   rcases Hi:Qg st.js (atR st.m r n) with _|x
   ·have J0:Q1 ((atR st.m r n:Nat):Int) l=none:=by rw[Wn hok.Yz hF.perm,Hi];rfl
    refine Zd ([blk b 84 (bC st ub jb mb ov iv dv mv sb).toArray,Qk jb .u32 l]) [] (Zra 0 10) (ZY 8 (ZY 2 ?_));refine Z1 (i:=10) ef ef ?_;refine  (Zcp Ze (Go.Proofs.YtdackcibfkkniaaGreatDoor.Zc8 mb st.m r n) ?_);refine Zk [11,12] ?_;refine Zw ef (Qj (.pointer none) Tryz.underlying82 Tryz.underlying31 Tryz.Ud.h rfl rfl rfl (by rw[J0];rfl)) (Zy ?_);refine ZD (ZY 5 (ZF ef (ZY 8 (Zy (Zp (Zcp Ze (Go.Proofs.YtdackcibfkkniaaGreatDoor.Qg4 mb st.m n) (ZY 2 ?_)))))))
    refine Zi ef (fun h4=>?_) (fun h4=>?_)
    ·have hpc:Wh st r n=1099511627776:=Qav (by simpa using h4);refine ZY 3 (S.conv (alls rs PL.rwB) (Ent.Wp PL.rwB hw _) ?_);refine S.Yf w.v fun hw1 hw2 hw3=>?_;rw[List.length_map,B7.2 r w hw,if_neg (Nat.lt_irrefl _),if_pos rfl,List.length_map,List.length_range]at hw1;refine ZY 5 (Zv (Zx (r) ef (hia) ef (by omega)) (Zv (Zo (o) (r) ef (hia) (Qfg hw)) (Zy ?_)));refine Zp (S.buildSlice (pvs:=[(_,_)]) [_] Tryz.underlying66 Tryz.D2.h rfl rfl ⟨⟨rfl,rfl⟩,trivial⟩ rfl rfl ?_);intro b59;refine Zp (S.Qu (s:=w.v) (1) (_) Tryz.underlying66 Tryz.D2.h rfl rfl rfl (Qy (b:=b59) rfl (by unfold maxLen;omega)) (by first|rfl|exact Ql _) (⟨by omega,by omega⟩) rfl ?_);intro v2 hv2;refine S.Qoj v2 (ints (w.d++[Wh st r n])) (by rw[hpc];exact(List.map_append (f:=Value.int .i64) (l₁:=w.d) (l₂:=[_])).symm) (Zv (Zx (r) ef (hia) ef (by omega)) ?_);refine Zp (S.Yb (o) (r*1) Eo.h rfl rfl rfl hia (by first|rfl|exact Nat.add_assoc _ _ _|omega) (by rw[Z3 PL.Kr,B7.1];omega) (Qff rs r ⟨v2,w.d++[Wh st r n]⟩) (ZY 2 ?_));refine S.Xb (own v2 3 1 (ints (w.d++[Wh st r n]))) (alls (rs.take r) PL.rwB) (alls (rs.drop (r+1)) PL.rwB) (Ent.Yl PL.rwB (x':=⟨v2,w.d++[Wh st r n]⟩) hw _) (S.Q6 b st ps ub jb mb ov iv dv mv sb l hF (Zv (Za ef ef) (ZY 2 ?_)));exact ZX (fy-1) (⟨n+1,rs.set r ⟨v2,w.d++[Wh st r n]⟩,by omega,by omega,Uw v2,rfl,rfl⟩) (by omega)
    ·have hpc:Wh st r n=0:=Qlo (by simpa using h4) Hi;refine Zy (S.conv (alls rs PL.rwB) (Ent.Wp PL.rwB hw _) ?_);refine S.Yf w.v fun hw1 hw2 hw3=>?_;rw[List.length_map,B7.2 r w hw,if_neg (Nat.lt_irrefl _),if_pos rfl,List.length_map,List.length_range]at hw1;refine ZY 5 (Zv (Zx (r) ef (hia) ef (by omega)) (Zv (Zo (o) (r) ef (hia) (Qfg hw)) (Zy ?_)));refine Zp (S.buildSlice (pvs:=[(_,_)]) [_] Tryz.underlying66 Tryz.D2.h rfl rfl ⟨⟨rfl,rfl⟩,trivial⟩ rfl rfl ?_);intro b59;refine Zp (S.Qu (s:=w.v) (1) (_) Tryz.underlying66 Tryz.D2.h rfl rfl rfl (Qy (b:=b59) rfl (by unfold maxLen;omega)) (by first|rfl|exact Ql _) (⟨by omega,by omega⟩) rfl ?_);intro v2 hv2;refine S.Qoj v2 (ints (w.d++[Wh st r n])) (by rw[hpc];exact(List.map_append (f:=Value.int .i64) (l₁:=w.d) (l₂:=[_])).symm) (Zv (Zx (r) ef (hia) ef (by omega)) ?_);refine Zp (S.Yb (o) (r*1) Eo.h rfl rfl rfl hia (by first|rfl|exact Nat.add_assoc _ _ _|omega) (by rw[Z3 PL.Kr,B7.1];omega) (Qff rs r ⟨v2,w.d++[Wh st r n]⟩) (ZY 2 ?_));refine S.Xb (own v2 3 1 (ints (w.d++[Wh st r n]))) (alls (rs.take r) PL.rwB) (alls (rs.drop (r+1)) PL.rwB) (Ent.Yl PL.rwB (x':=⟨v2,w.d++[Wh st r n]⟩) hw _) (S.Q6 b st ps ub jb mb ov iv dv mv sb l hF (Zv (Za ef ef) (ZY 2 ?_)));exact ZX (fy-1) (⟨n+1,rs.set r ⟨v2,w.d++[Wh st r n]⟩,by omega,by omega,Uw v2,rfl,rfl⟩) (by omega)
   ·obtain⟨_,K0⟩:=Qd Hi;have hx:Qg st.js x.id=some x:=by rw[K0];exact Hi
    have J0:Q1 ((atR st.m r n:Nat):Int) l=some (pt (ps x.id)):=by rw[Wn hok.Yz hF.perm,Hi];rfl
    have hlen:Cu st x≤80000:=by
     have h1:=(hok.at_ hx).w;exact Nat.mul_le_mul (show x.w-x.Qb≤10000 by omega) Sl
    refine Zd ([blk b 84 (bC st ub jb mb ov iv dv mv sb).toArray,Qk jb .u32 l]) [] (Zra 0 10) (ZY 8 (ZY 2 ?_));refine Z1 (i:=10) ef ef ?_;refine  (Zcp Ze (Go.Proofs.YtdackcibfkkniaaGreatDoor.Zc8 mb st.m r n) ?_);refine Zk [11,12] ?_;refine Zw ef (Qj (pt (ps x.id)) Tryz.underlying82 Tryz.underlying31 Tryz.Ud.h rfl rfl rfl (by rw[J0];rfl)) (Zy ?_);refine ZD (ZY 5 (ZT ef (ZY 3 (S.Q6 b st ps ub jb mb ov iv dv mv sb l hF (Zp (Zcp Ze (Qiz b st ps x hx) ?_))))));obtain⟨ln,hln⟩:∃ln,ln=Cu st x:=⟨_,rfl⟩;rw[←hln]at hlen ⊢;obtain⟨fr,hfr⟩:∃fr:Int,fr=max 1 ((ln:Nat):Int):=⟨_,rfl⟩;refine Zv (Nl (fr) rfl rfl (by omega)) (ZY 5 ?_);refine S.Xx b st ps fun ub2 jb2 mb2 ov2 iv2 dv2 mv2 sb2 l2 hF2=>(ZY 5 (Zp (Zcp Ze (Go.Proofs.YtdackcibfkkniaaGreatDoor.Qg4 mb2 st.m n) (ZY 2 ?_))))
    refine Zi ef (fun h4=>?_) (fun h4=>?_)
    ·have hpc:Wh st r n=1099511627776:=Qav (by simpa using h4);refine ZY 3 (S.conv (alls rs PL.rwB) (Ent.Wp PL.rwB hw _) ?_);refine S.Yf w.v fun hw1 hw2 hw3=>?_;rw[List.length_map,B7.2 r w hw,if_neg (Nat.lt_irrefl _),if_pos rfl,List.length_map,List.length_range]at hw1;refine ZY 5 (Zv (Zx (r) ef (hia) ef (by omega)) (Zv (Zo (o) (r) ef (hia) (Qfg hw)) (Zy ?_)));refine Zp (S.buildSlice (pvs:=[(_,_)]) [_] Tryz.underlying66 Tryz.D2.h rfl rfl ⟨⟨rfl,rfl⟩,trivial⟩ rfl rfl ?_);intro b59;refine Zp (S.Qu (s:=w.v) (1) (_) Tryz.underlying66 Tryz.D2.h rfl rfl rfl (Qy (b:=b59) rfl (by unfold maxLen;omega)) (by first|rfl|exact Ql _) (⟨by omega,by omega⟩) rfl ?_);intro v2 hv2;refine S.Qoj v2 (ints (w.d++[Wh st r n])) (by rw[hpc];exact(List.map_append (f:=Value.int .i64) (l₁:=w.d) (l₂:=[_])).symm) (Zv (Zx (r) ef (hia) ef (by omega)) ?_);refine Zp (S.Yb (o) (r*1) Eo.h rfl rfl rfl hia (by first|rfl|exact Nat.add_assoc _ _ _|omega) (by rw[Z3 PL.Kr,B7.1];omega) (Qff rs r ⟨v2,w.d++[Wh st r n]⟩) (ZY 2 ?_));refine S.Xb (own v2 3 1 (ints (w.d++[Wh st r n]))) (alls (rs.take r) PL.rwB) (alls (rs.drop (r+1)) PL.rwB) (Ent.Yl PL.rwB (x':=⟨v2,w.d++[Wh st r n]⟩) hw _) (S.Q6 b st ps ub2 jb2 mb2 ov2 iv2 dv2 mv2 sb2 l2 hF2 (Zv (Za ef ef) (ZY 2 ?_)));exact ZX (fy-1) (⟨n+1,rs.set r ⟨v2,w.d++[Wh st r n]⟩,by omega,by omega,Uw v2,rfl,rfl⟩) (by omega)
    ·have hpc:Wh st r n=fr:=by rw[hfr,hln];exact Qln (by simpa using h4) Hi
     refine Zy (S.conv (alls rs PL.rwB) (Ent.Wp PL.rwB hw _) ?_);refine S.Yf w.v fun hw1 hw2 hw3=>?_;rw[List.length_map,B7.2 r w hw,if_neg (Nat.lt_irrefl _),if_pos rfl,List.length_map,List.length_range]at hw1;refine ZY 5 (Zv (Zx (r) ef (hia) ef (by omega)) (Zv (Zo (o) (r) ef (hia) (Qfg hw)) (Zy ?_)));refine Zp (S.buildSlice (pvs:=[(_,_)]) [_] Tryz.underlying66 Tryz.D2.h rfl rfl ⟨⟨rfl,rfl⟩,trivial⟩ rfl rfl ?_);intro b59;refine Zp (S.Qu (s:=w.v) (1) (_) Tryz.underlying66 Tryz.D2.h rfl rfl rfl (Qy (b:=b59) rfl (by unfold maxLen;omega)) (by first|rfl|exact Ql _) (⟨by omega,by omega⟩) rfl ?_);intro v2 hv2;refine S.Qoj v2 (ints (w.d++[Wh st r n])) (by rw[hpc];exact(List.map_append (f:=Value.int .i64) (l₁:=w.d) (l₂:=[_])).symm) (Zv (Zx (r) ef (hia) ef (by omega)) ?_);refine Zp (S.Yb (o) (r*1) Eo.h rfl rfl rfl hia (by first|rfl|exact Nat.add_assoc _ _ _|omega) (by rw[Z3 PL.Kr,B7.1];omega) (Qff rs r ⟨v2,w.d++[Wh st r n]⟩) (ZY 2 ?_));refine S.Xb (own v2 3 1 (ints (w.d++[Wh st r n]))) (alls (rs.take r) PL.rwB) (alls (rs.drop (r+1)) PL.rwB) (Ent.Yl PL.rwB (x':=⟨v2,w.d++[Wh st r n]⟩) hw _) (S.Q6 b st ps ub2 jb2 mb2 ov2 iv2 dv2 mv2 sb2 l2 hF2 (Zv (Za ef ef) (ZY 2 ?_)));exact ZX (fy-1) (⟨n+1,rs.set r ⟨v2,w.d++[Wh st r n]⟩,by omega,by omega,Uw v2,rfl,rfl⟩) (by omega)
  ·rw[show n=st.nodes by omega]at B7;refine ZY 2 (Zv (Za ef ef) (ZY 2 ?_));exact ZX (fz-1) (⟨r+1,rs,by omega,by omega,B7.row,rfl,rfl⟩) (by omega)
 ·rw[show r=st.rows by omega]at B7;refine ZY 7 (S.Wj (own o 66 1 (rs.flatMap PL.rwC)) (alls rs PL.rwB) (PL.Ent.prof o rs _) ?_);exact Zf ef Zq (⟨o,rs,rfl,B7.all,rfl⟩)
def akO(st:Br)(id:Nat):PL.Ak:=match Qg st.js id with
 | none=>⟨0,0⟩
 | some x=>⟨x.k,Cu st x⟩
theorem Lq(st:Br):Fl st=(Xd st).map (akO st):=rfl
theorem Qj7{st:Br}{id:Nat}{x:Bj}(h:Qg st.js id=some x):akO st id=⟨x.k,(Cu st x:Nat)⟩:=by rw[akO,h]
def Vg(b:Br)(p:Nat×PL.St):Br:=if p.2.ok=true∧p.2.at_=0 then match Qg b.js p.1 with|none=>b|some x=>V3 b x p.2 else b
theorem Xq:∀(l:List (Nat×PL.St)) (b:Br),Yp b l=l.foldl Vg b
 | [],_=>rfl
 | (id,s)::l,b=>by rw[Yp,Xq l];rfl
theorem Ns(b:Br)(l:List (Nat×PL.St))(p:Nat×PL.St):Yp b (l++[p])=Vg (Yp b l) p:=by rw[Xq,Xq,List.foldl_append];rfl
theorem F9{b:Br}{p:Nat×PL.St}(h:¬(p.2.ok=true∧p.2.at_=0)):Vg b p=b:=if_neg h
theorem Db{b:Br}{p:Nat×PL.St}{x:Bj}(h:p.2.ok=true∧p.2.at_=0)(hg:Qg b.js p.1=some x):Vg b p=V3 b x p.2:=by rw[Vg,if_pos h,hg]
def G4(st:Br):Prop:=∀x∈st.js,x.state=0→x.Yt=none
structure Qkj(st:Br)(zs:List (Nat×PL.St))(e:Nat)(t:Br):Prop where
 ok:Q7 t
 ord:t.Qa.length≤st.Qa.length+16*e
 here:∀i p,e≤i→zs[i]?=some p→Qg t.js p.1=Qg st.js p.1
theorem Qkj.step{st:Br}{zs:List (Nat×PL.St)}(hz:(zs.map (·.1)).Nodup)(hw:∀p∈zs,∀x,Qg st.js p.1=some x→x.Yt=none){e:Nat}{t:Br}(h:Qkj st zs e t){p:Nat×PL.St}(hp:zs[e]?=some p):Qkj st zs (e+1) (Vg t p):=by
 by_cases hy:p.2.ok=true∧p.2.at_=0
 ·cases hg:Qg t.js p.1 with
  | none=>
   have:Vg t p=t:=by rw[Vg,if_pos hy,hg]
   rw[this];exact⟨h.ok,by have:=h.ord;omega,fun i q hi hq=>h.here i q (by omega) hq⟩
  | some x=>
   rw[Db hy hg];have K0:=(Qd hg).2;have Ub:Qg t.js x.id=some x:=by rw[K0];exact hg
   have hs:x.Yt=none:=hw p (List.mem_of_getElem? hp) x (by rw[←h.here e p (Nat.le_refl _) hp];exact hg);refine⟨Qiw h.ok (h.ok.at_ Ub) hs,by have:=h.ord;have:=Qv1 h.ok x p.2;omega,fun i q hi hq=>?_⟩
   rw[Qbi t p.2 ?_]
   ·exact h.here i q (by omega) hq
   ·rw[K0];intro e9;obtain⟨a1,a2⟩:=List.getElem?_eq_some_iff.1 hp;obtain⟨b1,b2⟩:=List.getElem?_eq_some_iff.1 hq;have:=List.pairwise_iff_getElem.1 (List.nodup_iff_pairwise_ne.1 hz) e i (by simpa using a1) (by simpa using b1) (by omega);simp only[List.getElem_map,a2,b2]at this;exact this e9.symm
 ·rw[F9 hy];exact⟨h.ok,by have:=h.ord;omega,fun i q hi hq=>h.here i q (by omega) hq⟩
abbrev zsR(st:Br):List (Nat×PL.St):=(Xd st).zip (PL.Fe (Af st) (Fl st))
theorem Ba{st:Br}:(zsR st).map (·.1)=Xd st:=by
 rw[List.map_fst_zip];rw[PL.H3,Lq,List.length_map];exact Nat.le_refl _
theorem Qdv{st:Br}(h:Q7 st)(hw:G4 st):∀e,e≤(zsR st).length→Qkj st (zsR st) e (Yp st ((zsR st).take e)):=by
 intro e;induction e with
 | zero=>exact fun _=>⟨h,Nat.le_refl _,fun _ _ _ _=>rfl⟩
 | succ e ih=>
  intro he;obtain⟨p,hp⟩:=Yv (show e<(zsR st).length by omega);have Hd:(zsR st).take (e+1)=(zsR st).take e++[p]:=by rw[List.take_add_one,hp];rfl
  rw[Hd,Ns];refine(ih (by omega)).step (by rw[Ba];exact Cf h.Yz) (fun q hq x hx=>?_) hp;have hq1:q.1∈Xd st:=by rw[←Ba];exact List.mem_map.2 ⟨q,hq,rfl⟩
  obtain⟨y,Ru,hy2⟩:=Hb h.Yz hq1;rw[hx]at Ru;cases Ru;simp only[quB,Bool.and_eq_true,decide_eq_true_eq]at hy2;exact hw x (Qd hx).1 hy2.1
theorem Ff(st:Br):Ya st=Yp st (zsR st):=rfl
theorem Rl{st:Br}(h:Q7 st)(hw:G4 st):Q7 (Ya st)∧(Ya st).Qa.length≤st.Qa.length+16*st.js.length:=by
 have:=Qdv h hw _ (Nat.le_refl _);rw[List.take_length]at this;refine⟨this.ok,Nat.le_trans this.ord ?_⟩;have h1:=Bd h.Yz;have h2:(zsR st).length≤(Xd st).length:=by rw[List.length_zip];exact Nat.min_le_left _ _
 omega
theorem Qmz(row:List Int)(k:Nat):(PL.chosen row k).length≤row.length:=by
 unfold PL.chosen;rw[(PL.F3 _).length_eq,List.length_map,List.length_take,PL.Gd];exact Nat.min_le_right _ _
theorem Qr6{D:List (List Int)}{n:Nat}(h:∀r∈D,r.length≤n)(k:Int):(PL.Wo D k).nodes.length≤n:=by
 unfold PL.Wo
 split
 ·exact Nat.zero_le _
 split
 ·exact Nat.zero_le _
 ·rename_i v i _;refine Nat.le_trans (Qmz _ _) ?_;cases hd:D[i]? with
  | none=>exact Nat.zero_le _
  | some r=>exact h r (List.mem_of_getElem? hd)
theorem Qii{n:Nat}:∀(l:List PL.Ak) {D:List (List Int)},(∀r∈D,r.length≤n)→∀s∈PL.Fe D l,s.nodes.length≤n
 | [],_,_,s,hs=>by cases hs
 | a::l,D,h,s,hs=>by
  rcases List.mem_cons.1 hs with rfl|hs
  ·exact Qr6 h _
  ·refine Qii l (fun r hr=>?_) s hs;have hm:r.length∈(PL.A4 D (PL.Wo D a.k) a.len).map List.length:=List.mem_map.2 ⟨r,hr,rfl⟩;rw[PL.Qdm]at hm;obtain⟨q,hq,e⟩:=List.mem_map.1 hm;rw[←e];exact h q hq
theorem Qdt(st:Br):∀r∈Af st,r.length≤st.nodes:=fun r hr=>by
 obtain⟨i,_,rfl⟩:=List.mem_map.1 (by rw[Qau]at hr;exact hr);rw[List.length_map,List.length_range];exact Nat.le_refl _
theorem Qu1{st:Br}(hN:st.nodes≤16)(hR:st.rows≤8):PL.Sml (Af st):=⟨by rw[Qau,List.length_map,List.length_range];omega,fun r hr=>by have:=Qdt st r hr;omega⟩
set_option maxHeartbeats 2000000 in
theorem Q07(b:Nat)(st:Br)(ps:Nat→Nat)(hw:G4 st)(hl:st.Qa.length≤800000):Spec Tryz.prog 43 [pt b] [BP b st ps] fun Γ _ Θ=>Θ=BP b (Ya st) ps::Γ:=by
 refine Spec.Us fun hok=>?_;have hN:=hok.Bz;have B8:=hok.Ev;have Sl:st.rows≤8:=by have:=hok.Hu.R8;rw[hok.R]at this;exact this
 have hwl:=Bd hok.Yz;refine Zbd Tryz.func43 rfl Tryz.ntmps43 fun w0 Γ=>Zsh (ZY 3 (Zp (Zc1 Ze (Qda b st ps) ?_)));rintro v Θ ⟨wv,rfl,hwn,rfl⟩;refine S.Yf wv fun hw1 hw2 hw3=>?_;have hmx:maxLen≤9223372036854775807:=by unfold maxLen;omega
 refine ZY 8 (Zy ?_);refine S.Qh (show Ent _ (own SV.nil 139 2 (([]:List PL.Ak).flatMap PL.akC)::_) from Ent.Ye 139 2) (ZY 5 ?_);refine Zl (fun fz ρ' Γ'=>∃(e:Nat) (al:List PL.Ak) (av:SV),fz=(Xd st).length-e∧e≤(Xd st).length∧al=(Fl st).take e∧av.n=e∧ρ'=[(0,pt b),(2,wv.v),(3,av.v),(10,wv.v),(11,.int .i64 (wv.n:Int)),(12,.int .i64 (e:Int))]∧Γ'=own wv 86 1 (wps ps (Xd st))::own av 139 2 (al.flatMap PL.akC)::BP b st ps::Γ) (m:=_) (⟨0,[],SV.nil,rfl,by omega,rfl,rfl,rfl,rfl⟩) ?_;rintro fz ρ' Γ' ⟨e,al,av,hfz,he,hal,han,rfl,rfl⟩;refine ZY 5 ?_
 refine Zj ef (fun h1=>?_) (fun h1=>?_)
 ·refine S.Qp wv (by omega) fun sb so Q4 _ _ _=>?_;obtain⟨id,hid⟩:=Yv (show e<(Xd st).length by omega);obtain⟨x,Ub,hxq⟩:=Hb hok.Yz (List.mem_of_getElem? hid);obtain⟨_,K0⟩:=Qd Ub;subst K0;have Y5:=hok.at_ Ub;have hak:(Fl st)[e]?=some ⟨x.k,(Cu st x:Nat)⟩:=by rw[Lq,List.getElem?_map,hid];exact congrArg some (Qj7 Ub)
  obtain⟨ln,hln⟩:∃ln,ln=Cu st x:=⟨_,rfl⟩;have hlen:=Qiz b st ps x Ub;rw[←hln]at hlen hak;refine ZY 5 (Zv (Zx (e) ef (Q4) ef (by omega)) ?_);refine Zv (Zo (wv) (e) ef (Q4) (by rw[List.getElem?_map,hid];rfl)) ?_;refine ZY 2 ?_;refine Zd ([BP b st ps]) [11] (Zra 0 8) (ZY 5 ?_);refine Zw ef (Qut b st ps Ub Eo.h rfl (fun _ _ _ _ _=>rfl)) (ZY 2 ?_);refine Z1 (i:=8) ef ef ?_;refine  (Zcp Ze (hlen) ?_);refine Zk [9] ?_;refine Zw ef (Q3 (pvs:=[(_,_),(_,_)]) [_,_] Tryz.z139.h Tryz.Zes.h ⟨⟨rfl,rfl⟩,⟨rfl,rfl⟩,trivial⟩ rfl) ?_;refine Z1 (i:=10) ef ef ?_;refine(S.buildSlice (pvs:=[(_,_)]) [_,_] Tryz.underlying136 Tryz.Qwi.h rfl rfl ⟨⟨rfl,rfl⟩,trivial⟩ rfl rfl ?_);intro b26;refine Zk [] ?_;refine Z1 (i:=11) ef ef ?_;refine(S.Qu (s:=av) (1) (PL.akC ⟨x.k,(ln:Nat)⟩) Tryz.underlying136 Tryz.Qwi.h rfl rfl rfl (Qy (b:=b26) rfl (by unfold maxLen;omega)) (by first|rfl|exact Ql _) (⟨by omega,by omega⟩) rfl ?_);intro av2 Zgr;refine ZL ([]) [12] (Zy ?_);refine ZD (Zy ?_);rw[Xg PL.akC al (⟨x.k,(ln:Nat)⟩:PL.Ak)];refine Zv (Za ef ef) (ZY 2 ?_);exact ZX (fz-1) (⟨e+1,al++[⟨x.k,(ln:Nat)⟩],av2,by omega,by omega,by rw[List.take_add_one,hak,hal];rfl,by omega,rfl,rfl⟩) (by omega)
 ·have hasl:(Fl st).length=(Xd st).length:=by rw[Lq,List.length_map]
  rw[show (Fl st).take e=Fl st by rw[show e=(Fl st).length by omega,List.take_length]]at hal;subst hal;refine ZY 4 (Zp (Zc1 Ze (Qqu b st ps) ?_));rintro v Θ ⟨pv,rs,rfl,hrs,rfl⟩;refine Zy ?_;refine Zp (Zc1 Ze (PL.Q9a (PL.prof pv rs) (own av 139 2 ((Fl st).flatMap PL.akC)) pv rs av (Fl st) (by rw[hrs];exact Qu1 hN Sl) (by omega) (PL.RdP.prof pv rs) (by rw[hasl,←show av.n=(Xd st).length by omega];exact RdS.own)) ?_);rintro v Θ ⟨u,os,rfl,hos,rfl⟩;rw[hrs]at hos;have hpl:=PL.H3 (Fl st) (Af st);have hol:os.length=(Xd st).length:=by rw[←hasl,←hpl,←hos,List.length_map]
  refine S.Yf u fun hu1 hu2 hu3=>?_;rw[Z3 PL.Qnw,hol]at hu1;have hzl:(zsR st).length=(Xd st).length:=by rw[List.length_zip,hpl,hasl,Nat.min_self]
  refine ZY 4 ?_;refine Zl (fun fz ρ' Γ'=>∃(e:Nat) (t:Br),fz=(Xd st).length-e∧e≤(Xd st).length∧t=Yp st ((zsR st).take e)∧ρ'=[(0,pt b),(2,wv.v),(32,u.v),(33,.int .i64 (u.n:Int)),(34,.int .i64 (e:Int))]∧Γ'=own u 146 4 (os.flatMap PL.srC)::alls os PL.srB::own wv 86 1 (wps ps (Xd st))::BP b t ps::Γ) (m:=_) (⟨0,st,rfl,by omega,rfl,rfl,rfl⟩) ?_;rintro fz ρ' Γ' ⟨e,t,hfz,he,ht,rfl,rfl⟩;have hI:Qkj st (zsR st) e t:=by rw[ht];exact Qdv hok hw e (by omega)
  refine ZY 5 ?_
  refine Zj ef (fun h2=>?_) (fun h2=>?_)
  ·refine S.Qp u (by omega) fun sb so Q4 _ _ _=>?_;refine S.Qp wv (by omega) fun wb wo hwa _ _ _=>?_;obtain⟨r,hr⟩:=Yv (show e<os.length by omega);obtain⟨id,hid⟩:=Yv (show e<(Xd st).length by omega);have hpr:(PL.Fe (Af st) (Fl st))[e]?=some r.x:=by rw[←hos,List.getElem?_map,hr];rfl
   have hz:(zsR st)[e]?=some (id,r.x):=by rw[List.getElem?_zip_eq_some];exact⟨hid,hpr⟩
   obtain⟨x,Ub,hxq⟩:=Hb hok.Yz (List.mem_of_getElem? hid);obtain⟨_,K0⟩:=Qd Ub;subst K0;have hgt:Qg t.js x.id=some x:=by rw[hI.here e (x.id,r.x) (Nat.le_refl _) hz];exact Ub
   have D3:x.Yt=none:=by
    simp only[quB,Bool.and_eq_true,decide_eq_true_eq]at hxq;exact hw x (Qd Ub).1 hxq.1
   have Wd:Yp st ((zsR st).take (e+1))=Vg t (x.id,r.x):=by rw[List.take_add_one,hz,ht];exact Ns _ _ _
   have hnl:r.x.nodes.length≤16:=Nat.le_trans (Qii (Fl st) (Qdt st) r.x (by rw[←hos];exact List.mem_map.2 ⟨r,List.mem_of_getElem? hr,rfl⟩)) hN;have hto:=hI.ord;refine S.conv (alls os PL.srB) (Ent.Wp PL.srB hr _) ?_;refine S.Yf r.v fun hr1 Ca hr3=>?_;rw[List.length_map,Nat.mul_one]at hr1;refine S.Xb (PL.srB r) (alls (os.take e) PL.srB) (alls (os.drop (e+1)) PL.srB) (Ent.Xc PL.srB hr _) (ZY 6 (Zv (Zx (e) ef (Q4) ef (by omega)) ?_));refine Zv (X4 (u) (e*4) [_,_,_,_] Eo.h rfl Q4 (by first|rfl|exact Nat.add_assoc _ _ _|omega) rfl (Y8 (enc:=PL.srC) (sz:=4) (fun _=>rfl) hr)) (Zp (S.alloc Tryz.z146.h rfl ?_));intro b7;refine Zy (Zp (Zs ef ef (cs':=[_,_,_,_]) ef (ZY 6 ?_)))
   refine Zbb 41 ef (fun hg10_2=>?_) (fun hg10_2=>?_)
   ·refine ZY 5 ?_
    refine Zj ef (fun h3=>?_) (fun h3=>?_)
    ·have Q7n:Vg t (x.id,r.x)=V3 t x r.x:=Db ⟨hg10_2,h3⟩ hgt;refine Zd ([blk b7 146 (PL.srC r).toArray,own wv 86 1 (wps ps (Xd st))]) [] (Zra 0 6) (ZY 3 ?_);refine Zw ef (Zx (e) ef (hwa) ef (by omega)) ?_;refine Zw ef (Zo (wv) (e) ef (hwa) (by rw[List.getElem?_map,hid];rfl)) ?_;refine Zy ?_;refine Z1 (i:=6) ef ef ?_;refine  (Zc1 Ze (Q69 b t ps x r.x r.v (alls os PL.srB) hgt D3 hr1.symm (by omega) (RdS.alls hr RdS.own) (by omega)) ?_);rintro v Θ rfl;refine Zk [] ?_;refine ZD (Zy (Zv (Za ef ef) (ZY 2 ?_)));first|exact ZX (fz-1) ⟨e+1,t,by omega,by omega,by rw[Wd,Gp],rfl,rfl⟩ (by omega)|exact ZX (fz-1) ⟨e+1,V3 t x r.x,by omega,by omega,by rw[Wd,Q7n],rfl,rfl⟩ (by omega)
    ·have Gp:Vg t (x.id,r.x)=t:=by first|exact Gp|exact F9 (fun h=>h3 h.2)
     refine ZY 2 (Zv (Za ef ef) (ZY 2 ?_));first|exact ZX (fz-1) ⟨e+1,t,by omega,by omega,by rw[Wd,Gp],rfl,rfl⟩ (by omega)|exact ZX (fz-1) ⟨e+1,V3 t x r.x,by omega,by omega,by rw[Wd,Q7n],rfl,rfl⟩ (by omega)
   ·have Gp:Vg t (x.id,r.x)=t:=F9 (by rw[hg10_2];simp);refine ZY 8 (Zv (Za ef ef) (ZY 2 ?_));first|exact ZX (fz-1) ⟨e+1,t,by omega,by omega,by rw[Wd,Gp],rfl,rfl⟩ (by omega)|exact ZX (fz-1) ⟨e+1,V3 t x r.x,by omega,by omega,by rw[Wd,Q7n],rfl,rfl⟩ (by omega)
  ·rw[show (zsR st).take e=zsR st by rw[show e=(zsR st).length by omega,List.take_length]]at ht;refine Zy ?_;exact Zfn ef Zq (by rw[Ff,←ht])
theorem Qyc{m:Mx}{tier k:Int}{l:List Cd}{x:Cd}(h:x∈(Lk m tier k l).1):x∈l:=by
 have key:∀i,x∈(Qcg m tier k l i).1→x∈l:=by
  intro i;induction i with
  | zero=>exact fun h=>by cases h
  | succ i ih=>
   intro h;rw[Qcg]at h
   split at h
   ·exact Qoo h
   ·exact ih h
 exact key _ h
theorem Qcf(m:Mx)(tier k:Int)(l:List Cd):(Lk m tier k l).1.length≤l.length:=by
 have hof:∀row,(ofV m row tier k l).1.length≤l.length:=fun row=>by
  unfold ofV
  split
  ·exact Nat.zero_le _
  split
  ·exact Nat.le_trans (List.length_take_le' _ _) (Qbk m row tier l)
  ·exact Nat.zero_le _
 have key:∀i,(Qcg m tier k l i).1.length≤l.length:=by
  intro i;induction i with
  | zero=>exact Nat.zero_le _
  | succ i ih=>
   rw[Qcg]
   split
   ·exact hof _
   ·exact ih
 exact key _
structure Q38(f:Br→Bj→Br)(st:Br)(l:List Nat)(e:Nat)(t:Br):Prop where
 ok:Q7 t
 ord:t.Qa.length≤st.Qa.length+16*e
 ids:t.js.map (·.id)=st.js.map (·.id)
theorem Dj{js js':List Bj}(h:js'.map (·.id)=js.map (·.id))(id:Nat):(Qg js' id).isSome=(Qg js id).isSome:=by
 have e:∀l:List Bj,(Qg l id).isSome=(l.map (·.id)).any fun i=>decide (i=id):=fun l=>by
  unfold Qg;rw[List.isSome_find?,List.any_map];rfl
 rw[e,e,h]
theorem linv{f:Br→Bj→Br}(hE:G0 f)(hid:∀st x,(f st x).js.map (·.id)=st.js.map (·.id)){st:Br}(h:Q7 st){l:List Nat}(hl:∀id∈l,(Qg st.js id).isSome=true):∀e,e≤l.length→Q38 f st l e (each f st (l.take e)):=by
 intro e;induction e with
 | zero=>exact fun _=>⟨h,Nat.le_refl _,rfl⟩
 | succ e ih=>
  intro he;have hi:=ih (by omega);obtain⟨id,Zb7⟩:=Yv (show e<l.length by omega);have Hd:l.take (e+1)=l.take e++[id]:=by rw[List.take_add_one,Zb7];rfl
  obtain⟨x,hx⟩:∃x,Qg (each f st (l.take e)).js id=some x:=Option.isSome_iff_exists.1 (by rw[Dj hi.ids];exact hl id (List.mem_of_getElem? Zb7));have K0:=(Qd hx).2;rw[Hd,P3,hx];dsimp only;refine⟨hE.ok _ x hi.ok (by rw[K0];exact hx),?_,by rw[hid];exact hi.ids⟩;have:=hE.ord _ x hi.ok (by rw[K0];exact hx);have:=hi.ord;omega
theorem lstep{f:Br→Bj→Br}{st:Br}{l:List Nat}{e id:Nat}{x:Bj}(hid:l[e]?=some id)(hx:Qg (each f st (l.take e)).js id=some x):each f st (l.take (e+1))=f (each f st (l.take e)) x:=by
 rw[List.take_add_one,hid];show each f st (l.take e++[id])=_;rw[P3,hx]
abbrev To(st:Br)(x:Bj):Bj:={x with Vo:=true,F1:=Ys st.now st.Xe}
abbrev As(st:Br)(x:Bj)(n:Nat):Od:=(n,{kind:=12,Qm:=x.id,tick:=Ys st.now st.Xe})
theorem Cc(st:Br)(x:Bj):Vv st x=Br.set {st with Qa:=st.Qa++x.at_.map (As st x)} (To st x):=rfl
theorem JOk.To{N:Nat}{st:Br}{x:Bj}(h:JOk N x):JOk N (To st x):=⟨h.B6,h.Al,h.tier,h.k1,h.kn,h.w,h.cr,h.wk,h.Jy,h.at_,h.drop,h.lod,h.ran,h.ld,h.svl⟩
theorem Qtg:G0 Vv:=⟨fun st x h hx=>by rw[Cc];exact(h.oset _).set (x:=BN.To st x) (h.at_ hx).To,fun st x id h=>by rw[Cc];exact Hz {st with Qa:=st.Qa++x.at_.map (As st x)} (x:=BN.To st x) h,fun st x h hx=>by
 rw[Cc];show (st.Qa++x.at_.map (As st x)).length≤_;rw[List.length_append,List.length_map];have:=Qd5 h hx;omega⟩
theorem Tn(st:Br)(x:Bj):(Vv st x).js.map (·.id)=st.js.map (·.id):=M3 st.js (BN.To st x)
def Uy(st:Br)(y:Bj):List Nat:=Aj (Lk st.m y.tier y.k (Gv st)).1
theorem pre_nil{st:Br}(h:Xd st=[]):Qs st=st:=by rw[Qs,h]
theorem Qig{st:Br}(h:st.js.any lvB=true):Qs st=st:=by
 unfold Qs
 split
 ·rfl
 ·exact if_pos h
theorem Qu2{st:Br}{id:Nat}{l:List Nat}{y:Bj}(hw:Xd st=id::l)(h:st.js.any lvB=false)(hy:Qg st.js id=some y):Qs st=each Vv st (Uy st y):=by
 unfold Qs;rw[hw];dsimp only;rw[if_neg (by rw[h];decide),hy];rfl
theorem Mz{st:Br}(hs:Kp st.js){y:Bj}:∀id∈Uy st y,(Qg st.js id).isSome=true:=fun id h=>by
 obtain⟨c,hc,e⟩:=List.mem_map.1 h;obtain⟨x,hx,e2⟩:=List.mem_map.1 (Qyc hc);subst e2;simp only at e;rw[←e,X3 hs (List.mem_filter.1 hx).1];rfl
theorem Qv5(t n:Nat):Ys t n≤4294967295:=Nat.min_le_right _ _
set_option maxHeartbeats 4000000 in
theorem Qqv(b:Nat)(st:Br)(ps:Nat→Nat)(hl:st.Qa.length≤800000){W:World}(hW:H6 W):Spec Tryz.prog 44 [pt b] [BP b st ps,Xa W] fun Γ _ Θ=>Θ=BP b (Qs st) ps::Xa W::Γ:=by
 refine Spec.Us fun hok=>?_;have hN:=hok.Bz;have B8:=hok.Ev;have hwl:=Bd hok.Yz;refine Zbd Tryz.func44 rfl Tryz.ntmps44 fun w0 Γ=>Zsh (ZY 3 (Zp (Zc1 Ze (Qda b st ps) ?_)));rintro v Θ ⟨wv,rfl,hwn,rfl⟩;refine ZY 8 (Zy ?_)
 refine Zb 18 ef (fun hg1_3=>?_) (fun hg1_3=>?_)
 ·have hg:=pre_nil (List.eq_nil_of_length_eq_zero (show (Xd st).length=0 by omega));refine ZY 7 ?_;exact Zf ef Zq (by rw[hg])
 ·refine Zy (Zg ef ef ef (Zc1 Ze (Qck b st ps) ?_));rintro v Θ ⟨jv,rfl,hjv,rfl⟩;refine Zg ef ef ef (Zcp Ze (Q3k b st ps jv hjv) (ZY 2 ?_))
  refine Zi ef (fun h1=>?_) (fun h1=>?_)
  ·have hg:=Qig h1;refine Zy ?_;exact Zf ef Zq (by rw[hg])
  ·obtain⟨id,ws,hws⟩:∃id ws,Xd st=id::ws:=by
    cases hw:Xd st with
    | nil=>exact absurd (show ((wv.n:Nat):Int)=0 by rw[hwn,hw];rfl) hg1_3
    | cons id ws=>exact⟨id,ws,rfl⟩
   obtain⟨y,hgy,hyq⟩:=Hb hok.Yz (show id∈Xd st by rw[hws];exact List.mem_cons_self ..);obtain⟨_,hyi⟩:=Qd hgy;subst hyi;have hg:=Qu2 hws h1 hgy;refine ZY 8 ?_;refine S.Qh (show Ent _ (own SV.nil 152 2 (([]:List Cd).flatMap cdC)::_) from Ent.Ye 152 2) (Zy (Zp (Zc1 Ze (Qck b st ps) ?_)));rintro v Θ ⟨j2,rfl,hj2,rfl⟩;refine S.Yf j2 fun Pz Gq Si=>?_;have hmx:maxLen≤9223372036854775807:=by unfold maxLen;omega
   refine ZY 4 ?_;refine Zl (fun fz ρ' Γ'=>∃(e:Nat) (cs:List Cd) (cv:SV),fz=st.js.length-e∧e≤st.js.length∧cs=((st.js.take e).filter fun x=>decide (x.state=2) || decide (x.state=1)).map (fun x=>(x.id,(x.tier:Int)))∧cv.n=cs.length∧cs.length≤e∧ρ'=[(0,pt b),(2,wv.v),(3,cv.v),(24,j2.v),(25,.int .i64 (j2.n:Int)),(26,.int .i64 (e:Int))]∧Γ'=own j2 86 1 (pts ps st.js)::own wv 86 1 (wps ps (Xd st))::own cv 152 2 (cs.flatMap cdC)::BP b st ps::Xa W::Γ) (m:=_) (⟨0,[],SV.nil,rfl,by omega,rfl,rfl,Nat.le_refl _,rfl,rfl⟩) ?_;rintro fz ρ' Γ' ⟨e,cs,cv,hfz,he,hcs,hcn,hcl,rfl,rfl⟩;refine ZY 5 ?_
   refine Zj ef (fun h2=>?_) (fun h2=>?_)
   ·refine S.Qp j2 (by omega) fun sb so Q4 _ _ _=>?_;obtain⟨x,hx⟩:=Yv (show e<st.js.length by omega);have Ub:Qg st.js x.id=some x:=X3 hok.Yz (List.mem_of_getElem? hx);have Y5:=hok.at_ Ub;have Uj:=fun v hv=>fsnoc (p:=fun x:Bj=>decide (x.state=2) || decide (x.state=1)) hx v hv;refine S.Wv b st ps x Ub fun ub jb mb ov iv dv mv sb l i av lb db rb qb hF hi Q5 Ld hJ=>(ZY 5 (Zv (Zx (e) ef (Q4) ef (by omega)) ?_));refine Zv (Zo (j2) (e) ef (Q4) (by rw[List.getElem?_map,hx];rfl)) ?_;refine ZY 8 (ZY 3 ?_)
    refine Zb 36 ef (fun hg6_6=>?_) (fun hg6_6=>?_)
    ·have Qjj:cs++[(x.id,(x.tier:Int))]=((st.js.take (e+1)).filter fun x=>decide (x.state=2) || decide (x.state=1)).map (fun x=>(x.id,(x.tier:Int))):=by
      rw[Uj true (by rw[decide_eq_true (show x.state=2 by omega)];rfl),List.map_append,hcs];rfl
     refine ZY 8 (Zy ?_);refine Zd ([blk (ps x.id) 90 (bjC x av lb db rb qb).toArray]) [13] (Zra 0 12) (ZY 8 (ZY 3 ?_));refine Zw ef (Q3 (pvs:=[(_,_),(_,_)]) [_,_] Tryz.z152.h Tryz.Zap.h ⟨⟨rfl,rfl⟩,⟨rfl,rfl⟩,trivial⟩ rfl) ?_;refine Z1 (i:=12) ef ef ?_;refine(S.buildSlice (pvs:=[(_,_)]) [_,_] Tryz.underlying150 Tryz.Pr.h rfl rfl ⟨⟨rfl,rfl⟩,trivial⟩ rfl rfl ?_);intro b56;refine Zk [] ?_;refine Z1 (i:=13) ef ef ?_;refine(S.Qu (s:=cv) (1) (cdC (x.id,(x.tier:Int))) Tryz.underlying150 Tryz.Pr.h rfl rfl rfl (Qy (b:=b56) rfl (by unfold maxLen;omega)) (by first|rfl|exact Ql _) (⟨by omega,by omega⟩) rfl ?_);intro cv2 Zgl;refine ZL ([]) [14] (Zy ?_);refine ZD (Zy ?_);first|rw[Xg cdC cs ((x.id,(x.tier:Int)):Cd)]|skip
     refine S.Qn b st ps ub jb mb ov iv dv mv sb l i x av lb db rb qb hi rfl (Q5 x rfl) (hF.set Y5) hJ ?_;rw[Qq hok Ub];refine Zv (Za ef ef) (ZY 2 ?_);first|exact ZX (fz-1) ⟨e+1,cs++[(x.id,(x.tier:Int))],cv2,by omega,by omega,Qjj,by rw[List.length_append,List.length_singleton];omega,by rw[List.length_append,List.length_singleton];omega,rfl,rfl⟩ (by omega)|exact ZX (fz-1) ⟨e+1,cs,cv,by omega,by omega,Qjj,by omega,by omega,rfl,rfl⟩ (by omega)
    ·refine ZY 8 ?_
     refine Zj ef (fun h3=>?_) (fun h3=>?_)
     ·have Qjj:cs++[(x.id,(x.tier:Int))]=((st.js.take (e+1)).filter fun x=>decide (x.state=2) || decide (x.state=1)).map (fun x=>(x.id,(x.tier:Int))):=by
       rw[Uj true (by rw[decide_eq_true (show x.state=1 by omega),Bool.or_true]),List.map_append,hcs];rfl
      refine Zd ([blk (ps x.id) 90 (bjC x av lb db rb qb).toArray]) [13] (Zra 0 12) (ZY 8 (ZY 3 ?_));refine Zw ef (Q3 (pvs:=[(_,_),(_,_)]) [_,_] Tryz.z152.h Tryz.Zap.h ⟨⟨rfl,rfl⟩,⟨rfl,rfl⟩,trivial⟩ rfl) ?_;refine Z1 (i:=12) ef ef ?_;refine(S.buildSlice (pvs:=[(_,_)]) [_,_] Tryz.underlying150 Tryz.Pr.h rfl rfl ⟨⟨rfl,rfl⟩,trivial⟩ rfl rfl ?_);intro b56;refine Zk [] ?_;refine Z1 (i:=13) ef ef ?_;refine(S.Qu (s:=cv) (1) (cdC (x.id,(x.tier:Int))) Tryz.underlying150 Tryz.Pr.h rfl rfl rfl (Qy (b:=b56) rfl (by unfold maxLen;omega)) (by first|rfl|exact Ql _) (⟨by omega,by omega⟩) rfl ?_);intro cv2 Zgl;refine ZL ([]) [14] (Zy ?_);refine ZD (Zy ?_);first|rw[Xg cdC cs ((x.id,(x.tier:Int)):Cd)]|skip
      refine S.Qn b st ps ub jb mb ov iv dv mv sb l i x av lb db rb qb hi rfl (Q5 x rfl) (hF.set Y5) hJ ?_;rw[Qq hok Ub];refine Zv (Za ef ef) (ZY 2 ?_);first|exact ZX (fz-1) ⟨e+1,cs++[(x.id,(x.tier:Int))],cv2,by omega,by omega,Qjj,by rw[List.length_append,List.length_singleton];omega,by rw[List.length_append,List.length_singleton];omega,rfl,rfl⟩ (by omega)|exact ZX (fz-1) ⟨e+1,cs,cv,by omega,by omega,Qjj,by omega,by omega,rfl,rfl⟩ (by omega)
     ·have Qjj:cs=((st.js.take (e+1)).filter fun x=>decide (x.state=2) || decide (x.state=1)).map (fun x=>(x.id,(x.tier:Int))):=by
       rw[Uj false (by rw[decide_eq_false (show ¬x.state=2 by omega),decide_eq_false (show ¬x.state=1 by omega)];rfl),hcs];simp
      refine ZY 2 ?_;first|rw[Xg cdC cs ((x.id,(x.tier:Int)):Cd)]|skip
      refine S.Qn b st ps ub jb mb ov iv dv mv sb l i x av lb db rb qb hi rfl (Q5 x rfl) (hF.set Y5) hJ ?_;rw[Qq hok Ub];refine Zv (Za ef ef) (ZY 2 ?_);first|exact ZX (fz-1) ⟨e+1,cs++[(x.id,(x.tier:Int))],cv2,by omega,by omega,Qjj,by rw[List.length_append,List.length_singleton];omega,by rw[List.length_append,List.length_singleton];omega,rfl,rfl⟩ (by omega)|exact ZX (fz-1) ⟨e+1,cs,cv,by omega,by omega,Qjj,by omega,by omega,rfl,rfl⟩ (by omega)
   ·have Q74:cs=Gv st:=by rw[hcs,show e=st.js.length by omega,List.take_length];rfl
    have hct:∀c∈cs,0≤c.2∧c.2≤255:=fun c hc=>by
     rw[Q74]at hc;obtain⟨x,hx,e2⟩:=List.mem_map.1 hc;have:=(hok.Qm x (List.mem_filter.1 hx).1).tier;subst e2;exact⟨by show (0:Int)≤(x.tier:Int);omega,by show ((x.tier:Nat):Int)≤255;omega⟩
    refine S.Qp wv (by omega) fun wb wo hwa _ _ _=>?_;have hjy:=hok.at_ hgy;refine S.Wv b st ps y hgy fun ub jb mb ov iv dv mv sb l i av lb db rb qb hF hi Q5 Ld hJ=>(ZY 2 ?_);refine Zd ([blk (ps y.id) 90 (bjC y av lb db rb qb).toArray,blk b 84 (bC st ub jb mb ov iv dv mv sb).toArray,own wv 86 1 (wps ps (Xd st))]) [] (Zra 0 19) (ZY 6 ?_);refine Zw ef (Zx (0) ef (hwa) ef (by omega)) ?_;refine Zw ef (Zo (wv) (0) ef (hwa) (by rw[hws];rfl)) (ZY 5 ?_);refine Zw ef (Zx (0) ef (hwa) ef (by omega)) ?_;refine Zw ef (Zo (wv) (0) ef (hwa) (by rw[hws];rfl)) (ZY 4 ?_)
    refine Z2 (i:=19) (j:=23) ef ef ef ?_ ?_
    ·refine  (Zc1 Ze (Qkm mb st.m y.tier y.k (own cv 152 2 (cs.flatMap cdC)) cv cs hcn (by omega) hct RdS.own hW) ?_);rintro v Θ ⟨cu,rfl,Q73,rfl⟩;refine Zk [20,21,22] (ZY 3 ?_);refine Z1 (i:=23) ef ef ?_;refine(S.alloc Tryz.z154.h rfl ?_);intro b6;refine Zk [] ?_;refine Z1 (i:=24) ef ef ?_;refine  (Zs ef ef (cs':=[_,_]) ef ?_);refine Zk [25] (Zy ?_);refine ZD (ZY 2 ?_);have hvr:Aj (Lk st.m y.tier y.k cs).1=Uy st y:=by rw[Q74];rfl
     have Qjk:(Lk st.m y.tier y.k cs).1.length=(Uy st y).length:=by rw[←hvr,List.length_map]
     rw[hvr];rw[Qjk]at Q73;refine S.Qn b st ps ub jb mb ov iv dv mv sb l i y av lb db rb qb hi rfl (Q5 y rfl) (hF.set hjy) hJ ?_;rw[Qq hok hgy];refine S.Yf cu fun hc1 hc2 hc3=>?_
     have hvl:(Uy st y).length≤1000:=by
      have h1:(Uy st y).length≤(Gv st).length:=Nat.le_trans (Nat.le_of_eq (List.length_map ..)) (Qcf st.m y.tier y.k (Gv st));have h2:(Gv st).length≤st.js.length:=by rw[Gv,List.length_map];exact List.length_filter_le _ _
      omega
     refine ZY 6 ?_;refine Zl (fun fz ρ' Γ'=>∃(e:Nat) (t:Br),fz=(Uy st y).length-e∧e≤(Uy st y).length∧t=each Vv st ((Uy st y).take e)∧ρ'=[(0,pt b),(83,cu.v),(84,.int .i64 (cu.n:Int)),(85,.int .i64 (e:Int))]∧Γ'=own cu 31 1 (Q9 (Uy st y))::BP b t ps::Xa W::Γ) (m:=_) (⟨0,st,rfl,by omega,rfl,rfl,rfl⟩) ?_;rintro fz ρ' Γ' ⟨e,t,hfz,he,ht,rfl,rfl⟩;have hI:Q38 Vv st (Uy st y) e t:=by rw[ht];exact linv Qtg Tn hok (Mz hok.Yz) e he
     have hIo:=hI.ord;refine ZY 5 ?_
     refine Zj ef (fun h4=>?_) (fun h4=>?_)
     ·refine S.Qp cu (by omega) fun sb so Q4 _ _ _=>?_;obtain⟨id,hid⟩:=Yv (show e<(Uy st y).length by omega);obtain⟨x,Ub⟩:∃x,Qg t.js id=some x:=Option.isSome_iff_exists.1 (by rw[Dj hI.ids];exact Mz hok.Yz id (List.mem_of_getElem? hid));obtain⟨_,K0⟩:=Qd Ub;subst K0;have Xf:each Vv st ((Uy st y).take (e+1))=Vv t x:=by rw[ht];exact lstep hid (by rw[←ht];exact Ub)
      have hokt:=hI.ok;have Y5:=hokt.at_ Ub;have hal:=Nat.le_trans Y5.len hokt.Bz;obtain⟨x1,Z4⟩:∃x1:Bj,x1=To t x:=⟨_,rfl⟩;have Dy:JOk t.nodes x1:=by rw[Z4];exact Y5.To
      have hidx:x1.id=x.id:=by rw[Z4]
      have e1:x1.F1=Ys t.now t.Xe:=by rw[Z4]
      refine S.Wv b t ps x Ub fun ub jb mb ov iv dv mv sb l i av lb db rb qb hF hi Q5 Ld hJ=>?_;have J0:Q1 (x.id:Int) l=some (pt (ps x.id)):=by rw[Wn hokt.Yz hF.perm,Ub];rfl
      have han:=hJ.an;refine ZY 5 (Zv (Zx (e) ef (Q4) ef (by omega)) (Zv (Zo (cu) (e) ef (Q4) (Gn hid)) (ZY 8 (Zy ?_))));refine Zv (Qj (pt (ps x.id)) Tryz.underlying82 Tryz.underlying31 Tryz.Ud.h rfl rfl rfl (by rw[J0];rfl)) (ZY 3 ?_);refine Zd ([blk b 84 (bC t ub jb mb ov iv dv mv sb).toArray]) [] (Zra 0 11) (ZY 8 (ZY 3 ?_));refine Z1 (i:=11) ef ef ?_;refine  (Zcp Ze (Qga t.now t.Xe hokt.now (by have:=hokt.g2;omega)) ?_);refine Zk [12,13] (ZY 2 ?_);refine Z1 (i:=14) ef ef ?_;refine(S.store (cs':=[_,_,_,_,_,_,_,_,_,_,_,_,_,_,_,_,_]) Eo.h rfl rfl rfl rfl rfl ?_);refine Zk [15,16] (ZY 2 ?_);refine Z1 (i:=17) ef ef ?_;refine(S.store (cs':=[_,_,_,_,_,_,_,_,_,_,_,_,_,_,_,_,_]) Eo.h rfl rfl rfl rfl rfl ?_);refine Zk [] ?_;refine ZD (ZY 2 (S.Yw (ps x.id) (bjC x1 av lb db rb qb).toArray (by rw[Z4]) (ZY 8 ?_)));refine Zl (fun fy ρ' Γ'=>∃(e3:Nat) (os:List Od) (ov2:SV),fy=x.at_.length-e3∧e3≤x.at_.length∧os=t.Qa++(x.at_.take e3).map (As t x)∧ov2.n=os.length∧os.length=t.Qa.length+e3∧ρ'=[(0,pt b),(9,.int .u32 (x.id:Int)),(10,pt (ps x.id)),(83,cu.v),(84,.int .i64 (cu.n:Int)),(85,.int .i64 (e:Int)),(114,av.v),(115,.int .i64 (av.n:Int)),(116,.int .i64 (e3:Int))] ∧   Γ'=blk (ps x.id) 90 (bjC x1 av lb db rb qb).toArray::own av 3 1 (nds x.at_)::Xz lb x.Y4::Xz db x.Qi::Dd rb x.ran::Ue qb x.id x.Yt::blk b 84 (bC t ub jb mb ov2 iv dv mv sb).toArray::Qk ub .i64 (Xy t.up)::Qk jb .u32 l::jT ps t.js i::jD ps t.js i::MI mb t.m::own ov2 97 14 (os.flatMap odC)::imgs iv t.Qe::own dv 31 1 (Q9 t.done)::own mv 31 1 (Q9 t.members)::Xz sb t.stops::own cu 31 1 (Q9 (Uy st y))::Xa W::Γ) (m:=_) (⟨0,t.Qa,ov,rfl,by omega,by simp,hF.on,rfl,rfl,rfl⟩) ?_;rintro fy ρ' Γ' ⟨e3,os,ov2,hfy,he3,hos,Wf,hol,rfl,rfl⟩;refine ZY 5 ?_
      refine Zj ef (fun h5=>?_) (fun h5=>?_)
      ·refine S.Qp av (by omega) fun ab ao haa _ _ _=>?_;obtain⟨z,hz⟩:=Yv (show e3<x.at_.length by omega);have Hd:x.at_.take (e3+1)=x.at_.take e3++[z]:=by rw[List.take_add_one,hz];rfl
       have Ei:os++[((z,{kind:=12,Qm:=x.id,tick:=Ys t.now t.Xe}):Od)]=t.Qa++(x.at_.take (e3+1)).map (As t x):=by rw[hos,Hd,List.map_append,List.append_assoc];rfl
       refine ZY 5 (Zv (Zx (e3) ef (haa) ef (by omega)) ?_);refine Zv (Zo (av) (e3) ef (haa) (by rw[List.getElem?_map,hz];rfl)) ?_;refine ZY 8 (ZY 2 ?_);refine Zv (Q3 (pvs:=[(_,_),(_,_),(_,_)]) [_,_,_,_,_,_,_,_,_,_,_,_,_] Tryz.z72.h Tryz.p72.h ⟨⟨rfl,rfl⟩,⟨rfl,rfl⟩,⟨rfl,rfl⟩,trivial⟩ rfl) ?_;rw[e1];refine Zp (Zc1 Ze (Fg b t ub jb mb ov2 iv dv mv sb z {kind:=12,Qm:=x.id,tick:=Ys t.now t.Xe} os Wf (by omega)) ?_);rintro v Θ ⟨ov3,D5,rfl⟩;refine ZY 2 (Zv (Za ef ef) (ZY 2 ?_));exact ZX (fy-1) (⟨e3+1,os++[((z,{kind:=12,Qm:=x.id,tick:=Ys t.now t.Xe}):Od)],ov3,by omega,by omega,Ei,D5,by rw[List.length_append,List.length_singleton];omega,rfl,rfl⟩) (by omega)
      ·rw[show x.at_.take e3=x.at_ by rw[show e3=x.at_.length by omega,List.take_length]]at hos;have hwj:Vv t x=Br.set {t with Qa:=os} x1:=by rw[Cc,hos,Z4]
       refine ZY 2 ?_;refine S.sub (jX (ps x.id) x1 av lb db rb qb (bR b {t with Qa:=os} ps ub jb mb ov2 iv dv mv sb l i (own cu 31 1 (Q9 (Uy st y))::Xa W::Γ))) (e:=by subst Z4;infer_instance) ?_;refine S.Qn b {t with Qa:=os} ps ub jb mb ov2 iv dv mv sb l i x1 av lb db rb qb hi hidx (Q5 x1 hidx) (BF.set (st:={t with Qa:=os}) ⟨hokt.oset os,hF.perm,Wf,hF.im,hF.dn,hF.mn,hF.sn⟩ Dy) ⟨by rw[Z4];exact hJ.an,by rw[Z4];exact hJ.l,by rw[Z4];exact hJ.d,by rw[Z4];exact hJ.r,by rw[Z4];exact hJ.s⟩ ?_;rw[←hwj];refine Zv (Za ef ef) (ZY 2 ?_);exact ZX (fz-1) (⟨e+1,Vv t x,by omega,by omega,by rw[Xf],rfl,rfl⟩) (by omega)
     ·rw[show (Uy st y).take e=Uy st y by rw[show e=(Uy st y).length by omega,List.take_length]]at ht;refine Zy ?_;exact Zfn ef Zq (by rw[hg,←ht])
    ·refine(S.alloc Tryz.z154.h rfl ?_);intro b6;refine Zk [] ?_;refine Z1 (i:=19) ef ef ?_;refine  (Zc1 Ze (Qkm mb st.m y.tier y.k (own cv 152 2 (cs.flatMap cdC)) cv cs hcn (by omega) hct RdS.own hW) ?_);rintro v Θ ⟨cu,rfl,Q73,rfl⟩;refine Zk [20,21,22] (ZY 3 ?_);refine Z1 (i:=24) ef ef ?_;refine  (Zs ef ef (cs':=[_,_]) ef ?_);refine Zk [25] (Zy ?_);refine ZD (ZY 2 ?_);have hvr:Aj (Lk st.m y.tier y.k cs).1=Uy st y:=by rw[Q74];rfl
     have Qjk:(Lk st.m y.tier y.k cs).1.length=(Uy st y).length:=by rw[←hvr,List.length_map]
     rw[hvr];rw[Qjk]at Q73;refine S.Qn b st ps ub jb mb ov iv dv mv sb l i y av lb db rb qb hi rfl (Q5 y rfl) (hF.set hjy) hJ ?_;rw[Qq hok hgy];refine S.Yf cu fun hc1 hc2 hc3=>?_
     have hvl:(Uy st y).length≤1000:=by
      have h1:(Uy st y).length≤(Gv st).length:=Nat.le_trans (Nat.le_of_eq (List.length_map ..)) (Qcf st.m y.tier y.k (Gv st));have h2:(Gv st).length≤st.js.length:=by rw[Gv,List.length_map];exact List.length_filter_le _ _
      omega
     refine ZY 6 ?_;refine Zl (fun fz ρ' Γ'=>∃(e:Nat) (t:Br),fz=(Uy st y).length-e∧e≤(Uy st y).length∧t=each Vv st ((Uy st y).take e)∧ρ'=[(0,pt b),(83,cu.v),(84,.int .i64 (cu.n:Int)),(85,.int .i64 (e:Int))]∧Γ'=own cu 31 1 (Q9 (Uy st y))::BP b t ps::Xa W::Γ) (m:=_) (⟨0,st,rfl,by omega,rfl,rfl,rfl⟩) ?_;rintro fz ρ' Γ' ⟨e,t,hfz,he,ht,rfl,rfl⟩;have hI:Q38 Vv st (Uy st y) e t:=by rw[ht];exact linv Qtg Tn hok (Mz hok.Yz) e he
     have hIo:=hI.ord;refine ZY 5 ?_
     refine Zj ef (fun h4=>?_) (fun h4=>?_)
     ·refine S.Qp cu (by omega) fun sb so Q4 _ _ _=>?_;obtain⟨id,hid⟩:=Yv (show e<(Uy st y).length by omega);obtain⟨x,Ub⟩:∃x,Qg t.js id=some x:=Option.isSome_iff_exists.1 (by rw[Dj hI.ids];exact Mz hok.Yz id (List.mem_of_getElem? hid));obtain⟨_,K0⟩:=Qd Ub;subst K0;have Xf:each Vv st ((Uy st y).take (e+1))=Vv t x:=by rw[ht];exact lstep hid (by rw[←ht];exact Ub)
      have hokt:=hI.ok;have Y5:=hokt.at_ Ub;have hal:=Nat.le_trans Y5.len hokt.Bz;obtain⟨x1,Z4⟩:∃x1:Bj,x1=To t x:=⟨_,rfl⟩;have Dy:JOk t.nodes x1:=by rw[Z4];exact Y5.To
      have hidx:x1.id=x.id:=by rw[Z4]
      have e1:x1.F1=Ys t.now t.Xe:=by rw[Z4]
      refine S.Wv b t ps x Ub fun ub jb mb ov iv dv mv sb l i av lb db rb qb hF hi Q5 Ld hJ=>?_;have J0:Q1 (x.id:Int) l=some (pt (ps x.id)):=by rw[Wn hokt.Yz hF.perm,Ub];rfl
      have han:=hJ.an;refine ZY 5 (Zv (Zx (e) ef (Q4) ef (by omega)) (Zv (Zo (cu) (e) ef (Q4) (Gn hid)) (ZY 8 (Zy ?_))));refine Zv (Qj (pt (ps x.id)) Tryz.underlying82 Tryz.underlying31 Tryz.Ud.h rfl rfl rfl (by rw[J0];rfl)) (ZY 3 ?_);refine Zd ([blk b 84 (bC t ub jb mb ov iv dv mv sb).toArray]) [] (Zra 0 11) (ZY 8 (ZY 3 ?_));refine Z1 (i:=11) ef ef ?_;refine  (Zcp Ze (Qga t.now t.Xe hokt.now (by have:=hokt.g2;omega)) ?_);refine Zk [12,13] (ZY 2 ?_);refine Z1 (i:=14) ef ef ?_;refine(S.store (cs':=[_,_,_,_,_,_,_,_,_,_,_,_,_,_,_,_,_]) Eo.h rfl rfl rfl rfl rfl ?_);refine Zk [15,16] (ZY 2 ?_);refine Z1 (i:=17) ef ef ?_;refine(S.store (cs':=[_,_,_,_,_,_,_,_,_,_,_,_,_,_,_,_,_]) Eo.h rfl rfl rfl rfl rfl ?_);refine Zk [] ?_;refine ZD (ZY 2 (S.Yw (ps x.id) (bjC x1 av lb db rb qb).toArray (by rw[Z4]) (ZY 8 ?_)));refine Zl (fun fy ρ' Γ'=>∃(e3:Nat) (os:List Od) (ov2:SV),fy=x.at_.length-e3∧e3≤x.at_.length∧os=t.Qa++(x.at_.take e3).map (As t x)∧ov2.n=os.length∧os.length=t.Qa.length+e3∧ρ'=[(0,pt b),(9,.int .u32 (x.id:Int)),(10,pt (ps x.id)),(83,cu.v),(84,.int .i64 (cu.n:Int)),(85,.int .i64 (e:Int)),(114,av.v),(115,.int .i64 (av.n:Int)),(116,.int .i64 (e3:Int))] ∧   Γ'=blk (ps x.id) 90 (bjC x1 av lb db rb qb).toArray::own av 3 1 (nds x.at_)::Xz lb x.Y4::Xz db x.Qi::Dd rb x.ran::Ue qb x.id x.Yt::blk b 84 (bC t ub jb mb ov2 iv dv mv sb).toArray::Qk ub .i64 (Xy t.up)::Qk jb .u32 l::jT ps t.js i::jD ps t.js i::MI mb t.m::own ov2 97 14 (os.flatMap odC)::imgs iv t.Qe::own dv 31 1 (Q9 t.done)::own mv 31 1 (Q9 t.members)::Xz sb t.stops::own cu 31 1 (Q9 (Uy st y))::Xa W::Γ) (m:=_) (⟨0,t.Qa,ov,rfl,by omega,by simp,hF.on,rfl,rfl,rfl⟩) ?_;rintro fy ρ' Γ' ⟨e3,os,ov2,hfy,he3,hos,Wf,hol,rfl,rfl⟩;refine ZY 5 ?_
      refine Zj ef (fun h5=>?_) (fun h5=>?_)
      ·refine S.Qp av (by omega) fun ab ao haa _ _ _=>?_;obtain⟨z,hz⟩:=Yv (show e3<x.at_.length by omega);have Hd:x.at_.take (e3+1)=x.at_.take e3++[z]:=by rw[List.take_add_one,hz];rfl
       have Ei:os++[((z,{kind:=12,Qm:=x.id,tick:=Ys t.now t.Xe}):Od)]=t.Qa++(x.at_.take (e3+1)).map (As t x):=by rw[hos,Hd,List.map_append,List.append_assoc];rfl
       refine ZY 5 (Zv (Zx (e3) ef (haa) ef (by omega)) ?_);refine Zv (Zo (av) (e3) ef (haa) (by rw[List.getElem?_map,hz];rfl)) ?_;refine ZY 8 (ZY 2 ?_);refine Zv (Q3 (pvs:=[(_,_),(_,_),(_,_)]) [_,_,_,_,_,_,_,_,_,_,_,_,_] Tryz.z72.h Tryz.p72.h ⟨⟨rfl,rfl⟩,⟨rfl,rfl⟩,⟨rfl,rfl⟩,trivial⟩ rfl) ?_;rw[e1];refine Zp (Zc1 Ze (Fg b t ub jb mb ov2 iv dv mv sb z {kind:=12,Qm:=x.id,tick:=Ys t.now t.Xe} os Wf (by omega)) ?_);rintro v Θ ⟨ov3,D5,rfl⟩;refine ZY 2 (Zv (Za ef ef) (ZY 2 ?_));exact ZX (fy-1) (⟨e3+1,os++[((z,{kind:=12,Qm:=x.id,tick:=Ys t.now t.Xe}):Od)],ov3,by omega,by omega,Ei,D5,by rw[List.length_append,List.length_singleton];omega,rfl,rfl⟩) (by omega)
      ·rw[show x.at_.take e3=x.at_ by rw[show e3=x.at_.length by omega,List.take_length]]at hos;have hwj:Vv t x=Br.set {t with Qa:=os} x1:=by rw[Cc,hos,Z4]
       refine ZY 2 ?_;refine S.sub (jX (ps x.id) x1 av lb db rb qb (bR b {t with Qa:=os} ps ub jb mb ov2 iv dv mv sb l i (own cu 31 1 (Q9 (Uy st y))::Xa W::Γ))) (e:=by subst Z4;infer_instance) ?_;refine S.Qn b {t with Qa:=os} ps ub jb mb ov2 iv dv mv sb l i x1 av lb db rb qb hi hidx (Q5 x1 hidx) (BF.set (st:={t with Qa:=os}) ⟨hokt.oset os,hF.perm,Wf,hF.im,hF.dn,hF.mn,hF.sn⟩ Dy) ⟨by rw[Z4];exact hJ.an,by rw[Z4];exact hJ.l,by rw[Z4];exact hJ.d,by rw[Z4];exact hJ.r,by rw[Z4];exact hJ.s⟩ ?_;rw[←hwj];refine Zv (Za ef ef) (ZY 2 ?_);exact ZX (fz-1) (⟨e+1,Vv t x,by omega,by omega,by rw[Xf],rfl,rfl⟩) (by omega)
     ·rw[show (Uy st y).take e=Uy st y by rw[show e=(Uy st y).length by omega,List.take_length]]at ht;refine Zy ?_;exact Zfn ef Zq (by rw[hg,←ht])
theorem H7(l:List Nat):(U0 l).Perm l:=List.mergeSort_perm l _
theorem Qtx(l:List Nat):(U0 l).Pairwise (·≤·):=by
 have:=List.pairwise_mergeSort (le:=fun a b:Nat=>decide (a≤b)) (fun a b c h1 h2=>by simp only[decide_eq_true_eq]at *;omega) (fun a b=>by simp only[Bool.or_eq_true,decide_eq_true_eq];omega) l;exact this.imp fun h=>by simpa using h
theorem T5(l:List Nat):(U0 l).length=l.length:=(H7 l).length_eq
theorem Q0a(s:SV)(l:List Nat)(hl:l.length≤65535)(Uj:s.n=l.length):Spec Tryz.prog 101 [s.v] [own s 31 1 (Q9 l)] fun Γ _ Θ=>Θ=own s 31 1 (Q9 (U0 l))::Γ:=by
 have h:=Go.Proofs.YtdackcibfkkniaaGreatDoor.Qg2 s (l.map fun n:Nat=>(n:Int)).toArray (by simpa using hl) (by simpa using Uj)
 have e:∀m:List Nat,uA (m.map fun n:Nat=>(n:Int)).toArray=Q9 m:=fun m=>by
  show (m.map fun n:Nat=>(n:Int)).map (Value.int .u32)=_;rw[List.map_map];rfl
 rw[e]at h;refine h.weaken fun Γ=>⟨Γ,Ent.refl _,?_⟩;rintro v Θ ⟨R,h1,h2,rfl⟩;refine⟨_,rfl,?_⟩
 have h3:R.toList=(U0 l).map fun n:Nat=>(n:Int):=by
  refine(h1.trans ?_).eq_of_pairwise (le:=fun a b:Int=>a≤b) (fun a b _ _ h1 h2=>Int.le_antisymm h1 h2) h2 (List.pairwise_map.2 ((Qtx l).imp fun h=>by omega));show ((l.map fun n:Nat=>(n:Int)).toArray).toList.Perm _;exact((H7 l).symm.map _)
 have h4:uA R=Q9 (U0 l):=by
  show R.toList.map (Value.int .u32)=_;rw[h3,List.map_map];rfl
 rw[h4];exact Ent.refl _
theorem Ent.Qtp{b:Nat}{st:Br}{ps:Nat→Nat}{ub jb mb:Nat}{ov iv dv mv:SV}{sb:Option Nat}{l:List (Int×Value)}{i:Nat}{x x':Bj}(hx:st.js[i]?=some x)(hid:x'.id=x.id)(Q5:Yo st.js x'=st.js.set i x')(Γ:List Assn) :
  Ent (JI (ps x.id) x'::bR b st ps ub jb mb ov iv dv mv sb l i Γ) (bX b (st.set x') ps ub jb mb ov iv dv mv sb l Γ):=by
 have h1:Ent (JI (ps x.id) x'::jT ps st.js i::jD ps st.js i::MI mb st.m::own ov 97 14 (st.Qa.flatMap odC)::imgs iv st.Qe::own dv 31 1 (Q9 st.done)::own mv 31 1 (Q9 st.members)::Xz sb st.stops::Γ) (alls (st.js.set i x') (jI ps)::MI mb st.m::own ov 97 14 (st.Qa.flatMap odC)::imgs iv st.Qe::own dv 31 1 (Q9 st.done)::own mv 31 1 (Q9 st.members)::Xz sb st.stops::Γ):=by
  rw[←hid];exact Ent.Yl (jI ps) (x':=x') hx _
 have h3:(st.set x').js=st.js.set i x':=Q5;rw[←h3]at h1;exact(((Ent.swap _ _ _).trans ((Ent.swap _ _ _).cons _)).trans (((Ent.swap _ _ _).cons _).cons _)).trans ((((h1.cons _).cons _).cons _))
section
variable {n:Nat}{md:Bool}{w0:WM md}{ρ:Env}{Γ Δ:List Assn}{φ:Act→World→Prop}
theorem S.Q3r(b:Nat)(st:Br)(ps:Nat→Nat)(ub jb mb:Nat)(ov iv dv mv:SV)(sb:Option Nat)(l:List (Int×Value)){i:Nat}{x:Bj}(hx:st.js[i]?=some x)[q:Picks (bX b st ps ub jb mb ov iv dv mv sb l []) Γ Δ](k:∀av lb db rb qb,JF x av lb db rb qb→S n w0 ρ (jX (ps x.id) x av lb db rb qb (bR b st ps ub jb mb ov iv dv mv sb l i Δ)) φ):S n w0 ρ Γ φ:=by
 refine S.Qh (q.Qh.trans (Ent.focus hx Δ)) ?_;refine S.Qgc (ps x.id) x fun av lb db rb qb q1 q2 q3 q4 q5=>?_;exact k av lb db rb qb ⟨q1,q2,q3,q4,q5⟩
theorem S.Q3s(b:Nat)(st:Br)(ps:Nat→Nat)(ub jb mb:Nat)(ov iv dv mv:SV)(sb:Option Nat)(l:List (Int×Value))(i:Nat){x:Bj}(x':Bj)(av:SV)(lb db rb qb:Option Nat)(hx:st.js[i]?=some x)(hid:x'.id=x.id)(Q5:Yo st.js x'=st.js.set i x')(hJ:JF x' av lb db rb qb)
  [q:Picks (jX (ps x.id) x' av lb db rb qb (bR b st ps ub jb mb ov iv dv mv sb l i [])) Γ Δ] (k:S n w0 ρ (bX b (st.set x') ps ub jb mb ov iv dv mv sb l Δ) φ):S n w0 ρ Γ φ:=by
 refine S.Qh ?_ k
 have h1:Ent (jX (ps x.id) x' av lb db rb qb (bR b st ps ub jb mb ov iv dv mv sb l i Δ)) (JI (ps x.id) x'::bR b st ps ub jb mb ov iv dv mv sb l i Δ):=
  (Ent.pack (jX (ps x.id) x' av lb db rb qb []) _).trans (Ent.W9 _ fun _ s=>⟨av,lb,db,rb,qb,hJ.an,hJ.l,hJ.d,hJ.r,hJ.s,s⟩)
 exact q.Qh.trans (h1.trans (Ent.Qtp hx hid Q5 Δ))
end
abbrev goX(x:Bj):Bj:={x with ran:=some []}
abbrev Qb0(st:Br)(x:Bj)(n:Nat):Od:=(n,{kind:=5,gen:=st.gen,Qm:=x.id})
theorem Lg(st:Br)(x:Bj):W6 st x=Br.set {st with stops:=some (x.at_.foldl Yj (st.stops.getD [])),Qa:=st.Qa++x.at_.map (Qb0 st x)} (goX x):=rfl
theorem JOk.goX{N:Nat}{x:Bj}(h:JOk N x):JOk N (goX x):=⟨h.B6,h.Al,h.tier,h.k1,h.kn,h.w,h.cr,h.wk,h.Jy,h.at_,h.drop,h.lod,fun r hr=>(by cases hr;intro y hy;cases hy),h.ld,h.svl⟩
theorem Qb1:∀(l s:List Nat),s.Nodup→(l.foldl Yj s).Nodup
 | [],_,h=>h
 | x::l,s,h=>Qb1 l (Yj s x) (Ge h x)
theorem Q7.stset{st:Br}(h:Q7 st){s:Option (List Nat)}(hs:∀d,s=some d→d.Nodup):Q7 {st with stops:=s}:=⟨h.R,h.N,h.Hu,h.Yz,fun x hx=>h.Qm x hx,h.Ev,h.q1,h.q2,h.g1,h.g2,h.now,h.fin,h.mem,hs⟩
theorem goE:G0 W6:=by
 refine⟨fun st x h hx=>?_,fun st x id h=>by rw[Lg];exact Hz {st with stops:=some (x.at_.foldl Yj (st.stops.getD [])),Qa:=st.Qa++x.at_.map (Qb0 st x)} (x:=BN.goX x) h,fun st x h hx=>?_⟩
 ·have hn:∀d,some (x.at_.foldl Yj (st.stops.getD []))=some d→d.Nodup:=fun d hd=>by
   cases hd;refine Qb1 _ _ ?_;cases hs:st.stops with
   | none=>exact List.nodup_nil
   | some s=>exact h.Eu s hs
  have h2:Q7 {st with stops:=some (x.at_.foldl Yj (st.stops.getD [])),Qa:=st.Qa++x.at_.map (Qb0 st x)}:=(h.oset (st.Qa++x.at_.map (Qb0 st x))).stset hn;rw[Lg];exact Q7.set h2 (x:=BN.goX x) (h.at_ hx).goX
 ·rw[Lg];show (st.Qa++x.at_.map (Qb0 st x)).length≤_;rw[List.length_append,List.length_map];have:=Qd5 h hx;omega
theorem Qxp(st:Br)(x:Bj):(W6 st x).js.map (·.id)=st.js.map (·.id):=M3 st.js (BN.goX x)
theorem Q3c(st:Br)(x:Bj):(W6 st x).members=st.members∧(W6 st x).gen=st.gen∧(W6 st x).stops.isSome=true:=⟨rfl,rfl,rfl⟩
theorem Qgr{l:List Nat}:∀ {st:Br},st.stops.isSome=true→(each W6 st l).members=st.members∧(each W6 st l).stops.isSome=true:=by
 induction l with
 | nil=>exact fun h=>⟨rfl,h⟩
 | cons id l ih=>
  intro st h;have e:each W6 st (id::l)=each W6 (match Qg st.js id with|none=>st|some x=>W6 st x) l:=rfl;rw[e];cases hg:Qg st.js id with
  | none=>exact ih h
  | some x=>
   obtain⟨a1,a2,a3⟩:=Q3c st x;obtain⟨b1,b2⟩:=ih (st:=W6 st x) a3;exact⟨b1.trans a1,b2⟩
abbrev D0(st:Br)(l:List Nat):Br:={st with gen:=u32 (st.gen+1),members:=U0 l,fin:=Ys st.now st.Ks,stops:=some []}
theorem Bi(st:Br)(l:List Nat):Qfi st l=each W6 (D0 st l) (U0 l):=rfl
theorem Qfj{st:Br}(h:Q7 st){l:List Nat}(hl:l.length≤1000):Q7 (D0 st l):=⟨h.R,h.N,h.Hu,h.Yz,fun x hx=>h.Qm x hx,h.Ev,h.q1,h.q2,h.g1,h.g2,h.now,Qv5 _ _,by show (U0 l).length≤_;rw[T5];exact hl,fun d hd=>(by cases hd;exact List.nodup_nil)⟩
theorem Q6c{st:Br}(h:Q7 st){l:List Nat}(hl:l.length≤1000)(hm:∀id∈l,(Qg st.js id).isSome=true):Q7 (Qfi st l)∧(Qfi st l).Qa.length≤st.Qa.length+16*l.length:=by
 have:=linv goE Qxp (Qfj h hl) (l:=U0 l) (fun id hid=>hm id ((H7 l).mem_iff.1 hid)) _ (Nat.le_refl _);rw[List.take_length]at this;rw[Bi];exact⟨this.ok,by have:=this.ord;rw[T5]at this;exact this⟩
set_option maxHeartbeats 4000000 in
theorem Zac(b:Nat)(st:Br)(ps:Nat→Nat)(s:SV)(xs:List Nat)(Uj:s.n=xs.length)(Mu:xs.length≤1000)(Js:∀id∈xs,(Qg st.js id).isSome=true)(hl:st.Qa.length≤800000):Spec Tryz.prog 90 [pt b,s.v] [BP b st ps,own s 31 1 (Q9 xs)] fun Γ _ Θ=>Θ=BP b (Qfi st xs) ps::Γ:=by
 refine Spec.Us fun hok=>?_;have Zbs:=Qfj hok Mu;have Zba:∀id∈U0 xs,(Qg (D0 st xs).js id).isSome=true:=fun id hid=>Js id ((H7 xs).mem_iff.1 hid);have hsl:=T5 xs;refine Zbd Tryz.func90 rfl Tryz.ntmps90 fun w0 Γ=>Zsh (ZY 3 (Zp (Zc1 Ze (Q0a s xs (by omega) Uj) ?_)));rintro v Θ rfl;refine S.Xx b st ps fun ub jb mb ov iv dv mv sb l hF=>(ZY 7 (Zv (Quy rfl rfl) ?_));rw[wrap32];refine ZY 8 (ZY 5 ?_);refine Zd ([blk b 84 (bC {st with gen:=u32 (st.gen+1),members:=U0 xs} ub jb mb ov iv dv s sb).toArray]) [13] (Zra 0 10) (ZY 8 (ZY 2 ?_));refine Z1 (i:=10) ef ef ?_;refine  (Zcp Ze (Qga st.now st.Ks hok.now (by have:=hok.q2;omega)) ?_);refine Zk [11,12] (ZY 2 ?_);refine Z1 (i:=13) ef ef ?_;refine(S.store (cs':=[_,_,_,_,_,_,_,_,_,_,_,_,_,_,_,_,_,_]) Eo.h rfl rfl rfl rfl rfl ?_);refine ZL ([]) [] ?_;refine ZD (ZY 3 (Zp (S.makeMap .i64 rfl ?_)));intro b36;refine ZY 6 ?_;refine S.conv (Qk b36 .i64 []) (show Ent _ (Xz (some b36) (some [])::_) from Ent.Qcv (s:=some []) rfl _) (S.Yw b (bC (D0 st xs) ub jb mb ov iv dv s (some b36)).toArray rfl (S.sub (bX b (D0 st xs) ps ub jb mb ov iv dv s (some b36) l Γ) ?_));have hF0:BF (D0 st xs) ps ov iv dv s (some b36) l:=⟨Zbs,hF.perm,hF.on,hF.im,hF.dn,by show s.n=(U0 xs).length;omega,rfl⟩;clear hF
 refine ZY 5 ?_;refine Zl (fun fz ρ' Γ'=>∃(e:Nat) (t:Br) (ub jb mb:Nat) (ov iv dv:SV) (sb:Option Nat) (l:List (Int×Value)),fz=(U0 xs).length-e∧e≤(U0 xs).length∧t=each W6 (D0 st xs) ((U0 xs).take e)∧BF t ps ov iv dv s sb l∧ρ'=[(0,pt b),(39,s.v),(40,.int .i64 (s.n:Int)),(41,.int .i64 (e:Int))]∧Γ'=bX b t ps ub jb mb ov iv dv s sb l Γ) (m:=_) (⟨0,D0 st xs,ub,jb,mb,ov,iv,dv,some b36,l,rfl,by omega,rfl,hF0,rfl,rfl⟩) ?_;rintro fz ρ' Γ' ⟨e,t,ub,jb,mb,ov,iv,dv,sb,l,hfz,he,ht,hF,rfl,rfl⟩;have hI:Q38 W6 (D0 st xs) (U0 xs) e t:=by rw[ht];exact linv goE Qxp Zbs Zba e he
 have hIo:t.Qa.length≤st.Qa.length+16*e:=hI.ord;obtain⟨Vt,Qwv⟩:t.members=U0 xs∧t.stops.isSome=true:=by rw[ht];exact Qgr (st:=D0 st xs) rfl
 refine ZY 5 ?_
 refine Zj ef (fun h1=>?_) (fun h1=>?_)
 ·obtain⟨id,hid⟩:=Yv (show e<(U0 xs).length by omega);obtain⟨x,Ub⟩:∃x,Qg t.js id=some x:=Option.isSome_iff_exists.1 (by rw[Dj hI.ids];exact Zba id (List.mem_of_getElem? hid));obtain⟨_,K0⟩:=Qd Ub;subst K0;have Xf:each W6 (D0 st xs) ((U0 xs).take (e+1))=W6 t x:=by rw[ht];exact lstep hid (by rw[←ht];exact Ub)
  have hokt:=hI.ok;have Y5:=hokt.at_ Ub;have hal:=Nat.le_trans Y5.len hokt.Bz;obtain⟨ss,hss⟩:∃ss,t.stops=some ss:=Option.isSome_iff_exists.1 Qwv;obtain⟨q,rfl⟩:∃q,sb=some q:=by have:=hF.sn;rw[hss]at this;cases sb with|none=>cases this|some q=>exact⟨q,rfl⟩
  obtain⟨x1,Z4⟩:∃x1:Bj,x1=goX x:=⟨_,rfl⟩;have Dy:JOk t.nodes x1:=by rw[Z4];exact Y5.goX
  have hidx:x1.id=x.id:=by rw[Z4]
  refine S.Qp s (by omega) fun ib io hia _ _ _=>?_;obtain⟨i,hi,Q5,_⟩:=Bt hokt.Yz Ub;refine S.Q3r b t ps ub jb mb ov iv dv s (some q) l hi fun av lb db rb qb hJ=>(S.conv (Xz (some q) t.stops) (Ent.Qqz hss _) ?_);have J0:Q1 (x.id:Int) l=some (pt (ps x.id)):=by rw[Wn hokt.Yz hF.perm,Ub];rfl
  have han:=hJ.an;refine ZY 5 (Zv (Zx (e) ef (hia) ef (by omega)) ?_);refine Zv (Zo (s) (e) ef (hia) (by rw[Vt];exact Gn hid)) (ZY 8 (Zy ?_));refine Zv (Qj (pt (ps x.id)) Tryz.underlying82 Tryz.underlying31 Tryz.Ud.h rfl rfl rfl (by rw[J0];rfl)) (ZY 5 (Zp (S.makeMap .i64 rfl ?_)));intro b52;refine ZY 6 (S.Yw (ps x.id) (bjC x1 av lb db (some b52) qb).toArray (by rw[Z4]) (ZY 8 ?_));refine Zl (fun fy ρ' Γ'=>∃(e3:Nat) (s3:List Nat) (os:List Od) (ov2:SV),fy=x.at_.length-e3∧e3≤x.at_.length∧s3=(x.at_.take e3).foldl Yj ss∧os=t.Qa++(x.at_.take e3).map (Qb0 t x)∧ov2.n=os.length∧os.length=t.Qa.length+e3∧ρ'=[(0,pt b),(5,.int .u32 (x.id:Int)),(6,pt (ps x.id)),(39,s.v),(40,.int .i64 (s.n:Int)),(41,.int .i64 (e:Int)),(58,av.v),(59,.int .i64 (av.n:Int)),(60,.int .i64 (e3:Int))] ∧   Γ'=blk (ps x.id) 90 (bjC x1 av lb db (some b52) qb).toArray::Qk b52 .i64 []::Qk q .i64 (Xy s3)::own av 3 1 (nds x.at_)::Xz lb x.Y4::Xz db x.Qi::Ue qb x.id x.Yt::blk b 84 (bC t ub jb mb ov2 iv dv s (some q)).toArray::Qk ub .i64 (Xy t.up)::Qk jb .u32 l::jT ps t.js i::jD ps t.js i::MI mb t.m::own ov2 97 14 (os.flatMap odC)::imgs iv t.Qe::own dv 31 1 (Q9 t.done)::own s 31 1 (Q9 t.members)::Γ) (m:=_) (⟨0,ss,t.Qa,ov,rfl,by omega,rfl,by simp,hF.on,rfl,rfl,rfl⟩) ?_;rintro fy ρ' Γ' ⟨e3,s3,os,ov2,hfy,he3,Uq,hos,Wf,hol,rfl,rfl⟩;refine ZY 5 ?_
  refine Zj ef (fun h2=>?_) (fun h2=>?_)
  ·refine S.Qp av (by omega) fun ab ao haa _ _ _=>?_;obtain⟨z,hz⟩:=Yv (show e3<x.at_.length by omega);have Hd:x.at_.take (e3+1)=x.at_.take e3++[z]:=by rw[List.take_add_one,hz];rfl
   have Ei:os++[((z,{kind:=5,gen:=t.gen,Qm:=x.id}):Od)]=t.Qa++(x.at_.take (e3+1)).map (Qb0 t x):=by rw[hos,Hd,List.map_append,List.append_assoc];rfl
   have Zfl:Yj s3 z=(x.at_.take (e3+1)).foldl Yj ss:=by rw[Hd,List.foldl_append,←Uq];rfl
   refine ZY 5 (Zv (Zx (e3) ef (haa) ef (by omega)) ?_);refine Zv (Zo (av) (e3) ef (haa) (by rw[List.getElem?_map,hz];rfl)) ?_;refine ZY 8 (Zy (Zp (Zc1 Ze (Qj8 q s3 z) ?_)));rintro v Θ rfl;refine ZY 8 (Zy ?_);refine Zv (Q3 (pvs:=[(_,_),(_,_),(_,_)]) [_,_,_,_,_,_,_,_,_,_,_,_,_] Tryz.z72.h Tryz.p72.h ⟨⟨rfl,rfl⟩,⟨rfl,rfl⟩,⟨rfl,rfl⟩,trivial⟩ rfl) (Zp (Zc1 Ze (Fg b t ub jb mb ov2 iv dv s (some q) z {kind:=5,gen:=t.gen,Qm:=x.id} os Wf (by omega)) ?_));rintro v Θ ⟨ov3,D5,rfl⟩;refine ZY 2 (Zv (Za ef ef) (ZY 2 ?_));exact ZX (fy-1) (⟨e3+1,Yj s3 z,os++[((z,{kind:=5,gen:=t.gen,Qm:=x.id}):Od)],ov3,by omega,by omega,Zfl,Ei,D5,by rw[List.length_append,List.length_singleton];omega,rfl,rfl⟩) (by omega)
  ·rw[show x.at_.take e3=x.at_ by rw[show e3=x.at_.length by omega,List.take_length]]at hos Uq;have hwj:W6 t x=Br.set {t with stops:=some s3,Qa:=os} x1:=by rw[Lg,hos,Uq,Z4,hss];rfl
   have hokg:Q7 (W6 t x):=goE.ok t x hokt Ub;have hF1:BF (W6 t x) ps ov2 iv dv s (some q) l:=⟨hokg,by rw[hwj];show l.Perm ((Yo t.js x1).map (jE ps));rw[Ql0];exact hF.perm,by rw[hwj];exact Wf,by rw[hwj];exact hF.im,by rw[hwj];exact hF.dn,by rw[hwj];exact hF.mn,by rw[hwj];rfl⟩;refine ZY 2 ?_;refine S.conv (Qk q .i64 (Xy s3)) (show Ent _ (Xz (some q) (some s3)::_) from Ent.Qcv (s:=some s3) rfl _) ?_;refine S.conv (Qk b52 .i64 []) (show Ent _ (Dd (some b52) x1.ran::_) by rw[Z4];exact Ent.refl _) ?_;refine S.sub (jX (ps x.id) x1 av lb db (some b52) qb (bR b {t with stops:=some s3,Qa:=os} ps ub jb mb ov2 iv dv s (some q) l i Γ)) (e:=by subst Z4;infer_instance) ?_;refine S.Q3s b {t with stops:=some s3,Qa:=os} ps ub jb mb ov2 iv dv s (some q) l i x1 av lb db (some b52) qb hi hidx (Q5 x1 hidx) ⟨by rw[Z4];exact hJ.an,by rw[Z4];exact hJ.l,by rw[Z4];exact hJ.d,by rw[Z4];rfl,by rw[Z4];exact hJ.s⟩ ?_;rw[←hwj];refine Zv (Za ef ef) (ZY 2 ?_);exact ZX (fz-1) (⟨e+1,W6 t x,ub,jb,mb,ov2,iv,dv,some q,l,by omega,by omega,by rw[Xf],hF1,rfl,rfl⟩) (by omega)
 ·rw[show (U0 xs).take e=U0 xs by rw[show e=(U0 xs).length by omega,List.take_length]]at ht;refine Zy (S.Q6 b t ps ub jb mb ov iv dv s sb l hF ?_);exact Zfn ef Zq (by rw[Bi,←ht])
theorem Ng{m:Mx}{j:Nat}{r:Mv×Mx}:∀ {p:Nat},Vy m j p=some r→∃i,i<p∧Wi m j i=(some r.1,r.2)∧∀k,k<i→(Wi m j k).1=none
 | 0,h=>by cases h
 | p+1,h=>by
  rw[Vy]at h;cases hr:Vy m j p with
  | some r'=>
   rw[hr]at h;simp only[Option.some.injEq]at h;subst h;obtain⟨i,h3,h4,h5⟩:=Ng hr;exact⟨i,by omega,h4,h5⟩
  | none=>
   rw[hr]at h;simp only at h;cases hv:Wi m j p with
   | mk x m'=>
    rw[hv]at h;cases x with
    | none=>cases h
    | some x=>
     simp only[Option.some.injEq]at h;subst h;exact⟨p,by omega,hv,Rf hr⟩
def Mvs(m:Mx):List Mv→Mx→Prop
 | [],m'=>m'=m
 | x::xs,m'=>(Wi m x.1 x.2.2).1=some x∧Mvs (Wi m x.1 x.2.2).2 xs m'
theorem Qr1{m m1 m2:Mx}{xs ys:List Mv}(h:Mvs m xs m1)(h2:Mvs m1 ys m2):Mvs m (xs++ys) m2:=by
 induction xs generalizing m with
 | nil=>rw[show m1=m from h]at h2;exact h2
 | cons x xs ih=>exact⟨h.1,ih h.2⟩
theorem Q8j{m m':Mx}{j:Nat}{z:Int}{x:Mv}(h:Wi m j z=(some x,m')):Mvs m [x] m':=by
 obtain⟨y,_,_,rfl,_⟩:=Qbb h;refine⟨by rw[h],?_⟩;show m'=_;rw[h]
theorem Qdn{m0:Mx}{j:Nat}{ids:List Nat}{a:Mx×List Mv}(h:Mvs m0 a.2 a.1):∀q,Mvs m0 (Kw j ids a q).2 (Kw j ids a q).1
 | 0=>h
 | q+1=>by
  have ih:=Qdn (ids:=ids) h q (j:=j);rw[Kw];cases ht:Vy (Kw j ids a q).1 (ids.getD q 0) j with
  | none=>exact ih
  | some r=>
   obtain⟨i,_,hv,_⟩:=Ng ht;exact Qr1 ih (Q8j hv)
theorem Qib(m:Mx):∀k,Mvs m (Nf m k).2 (Nf m k).1
 | 0=>rfl
 | k+1=>Qdn (Qib m k) _
theorem Qqn(m:Mx):Mvs m (Uu m).2 (Uu m).1:=Qib m _
abbrev Qgg(x:Jb):Nat×Bs:=(x.id,x.ns)
structure Keep(m m':Mx):Prop where
 ok:Xk m'
 R:m'.R=m.R
 N:m'.N=m.N
 up:m'.up=m.up
 js:m'.js.map Qgg=m.js.map Qgg
theorem Keep.refl{m:Mx}(h:Xk m):Keep m m:=⟨h,rfl,rfl,rfl,rfl⟩
theorem Keep.trans{a b c:Mx}(h:Keep a b)(h2:Keep b c):Keep a c:=⟨h2.ok,h2.R.trans h.R,h2.N.trans h.N,h2.up.trans h.up,h2.js.trans h.js⟩
theorem Qlf(js:List Jb)(j t:Nat):(Gi js j t).map Qgg=js.map Qgg:=by
 rw[Gi,List.map_map];refine List.map_congr_left fun x _=>?_;show Qgg (if x.id=j then _ else x)=_;split <;> rfl
theorem Keep.move{m:Mx}(hm:Xk m)(j:Nat)(z:Int):Keep m (Wi m j z).2:=by
 obtain⟨h1,h2,h3⟩:=Qow m j z;refine⟨Qbc hm j z,h1,h2,h3,?_⟩;cases hv:Wi m j z with
 | mk x m'=>
  cases x with
  | none=>rw[(Qbd hv).1]
  | some x=>
   obtain⟨y,_,_,_,e⟩:=Qbb hv;rw[e];exact Qlf _ _ _
theorem Keep.go{xs:List Mv}:∀ {m m':Mx},Xk m→Mvs m xs m'→Keep m m':=by
 induction xs with
 | nil=>intro m m' hm h;rw[show m'=m from h];exact .refl hm
 | cons x xs ih=>intro m m' hm h;exact(Keep.move hm x.1 x.2.2).trans (ih (Qbc hm _ _) h.2)
theorem Keep.repack{m:Mx}(hm:Xk m):Keep m (Uu m).1:=Keep.go hm (Qqn m)
theorem Qrd{js js':List Jb}(h:js'.map Qgg=js.map Qgg)(j:Nat):(look js' j).map Qgg=(look js j).map Qgg:=by
 induction js generalizing js' with
 | nil=>rw[List.map_eq_nil_iff.1 h]
 | cons x js ih=>
  cases js' with
  | nil=>cases h
  | cons y js'=>
   rw[List.map_cons,List.map_cons,List.cons.injEq]at h;obtain⟨h1,h2⟩:=h;have h3:y.id=x.id:=congrArg Prod.fst h1;have ih:=ih h2;unfold look at ih ⊢;rw[List.find?_cons,List.find?_cons,h3]
   by_cases e:x.id=j
   ·simp only[e,decide_true,Option.map_some];exact congrArg some h1
   ·simp only[e,decide_false];exact ih
theorem Keep.ids{m m':Mx}(h:Keep m m'):m'.js.map (·.id)=m.js.map (·.id):=by
 have:=congrArg (List.map Prod.fst) h.js
 simpa [List.map_map,Function.comp_def] using this
theorem Gf{m:Mx}(_h:Xk m)(z:Int):(Z9 m z).length≤128:=by
 unfold Z9
 split
 ·rw[List.length_map];have h2:=Na m z.toNat;omega
 ·exact Nat.zero_le _
theorem C3{m:Mx}(h:Xk m)(z:Int):(Yq m z).length≤128:=by
 unfold Yq
 split
 ·rw[List.length_map];have h1:=Mf m z.toNat m.R;have:=h.R8;omega
 ·exact Nat.zero_le _
theorem E0(b:Br)(row:Int):Y1 b row 0=b:=rfl
theorem Ax{b:Br}{row:Int}{i:Nat}(h:(Yh b.m row).2=false):Y1 b row (i+1)=b:=by rw[Y1,if_pos h]
theorem Ay{b:Br}{row:Int}{i:Nat}(h:(Yh b.m row).2=true)(h2:0<(Wl b (Z9 b.m (Yh b.m row).1)).length):Y1 b row (i+1)=Qfi {b with row:=(Yh b.m row).1} (Wl b (Z9 b.m (Yh b.m row).1++Yq b.m (Yh b.m row).1)):=by
 rw[Y1,if_neg (by rw[h];decide),if_pos h2]
theorem Aw{b:Br}{row:Int}{i:Nat}(h:(Yh b.m row).2=true)(h2:¬0<(Wl b (Z9 b.m (Yh b.m row).1)).length):Y1 b row (i+1)=Y1 b (Yh b.m row).1 i:=by
 rw[Y1,if_neg (by rw[h];decide),if_neg h2]
theorem Qdo{st:Br}{l:List Nat}:∀id∈Wl st l,(Qg st.js id).isSome=true:=fun id h=>by
 have h2:=(List.mem_filter.1 h).2;cases hg:Qg st.js id with
 | none=>rw[hg]at h2;cases h2
 | some x=>rfl
theorem L9(st:Br)(l:List Nat):(Wl st l).length≤l.length:=List.length_filter_le _ _
theorem Q7.rset{st:Br}(h:Q7 st)(z:Int):Q7 {st with row:=z}:=⟨h.R,h.N,h.Hu,h.Yz,fun x hx=>h.Qm x hx,h.Ev,h.q1,h.q2,h.g1,h.g2,h.now,h.fin,h.mem,h.Eu⟩
theorem Qhj{st:Br}(h:Q7 st):∀(i:Nat) (row:Int),Q7 (Y1 st row i)∧(Y1 st row i).Qa.length≤st.Qa.length+4096
 | 0,_=>⟨h,by rw[E0];omega⟩
 | i+1,row=>by
  cases hn:(Yh st.m row).2 with
  | false=>rw[Ax hn];exact⟨h,by omega⟩
  | true=>
   by_cases h2:0<(Wl st (Z9 st.m (Yh st.m row).1)).length
   ·rw[Ay hn h2]
    have hl:(Wl st (Z9 st.m (Yh st.m row).1++Yq st.m (Yh st.m row).1)).length≤256:=by
     have:=L9 st (Z9 st.m (Yh st.m row).1++Yq st.m (Yh st.m row).1);rw[List.length_append]at this;have:=Gf h.Hu (Yh st.m row).1;have:=C3 h.Hu (Yh st.m row).1;omega
    obtain⟨a,b⟩:=Q6c (h.rset (Yh st.m row).1) (l:=Wl st (Z9 st.m (Yh st.m row).1++Yq st.m (Yh st.m row).1)) (by omega) (Qdo (st:=st));exact⟨a,Nat.le_trans b (by show st.Qa.length+_≤_;omega)⟩
   ·rw[Aw hn h2];exact Qhj h i _
set_option maxHeartbeats 4000000 in
theorem Qz7(b:Nat)(st:Br)(ps:Nat→Nat)(hl:st.Qa.length≤800000){W:World}(hW:H6 W):Spec Tryz.prog 47 [pt b] [BP b st ps,Xa W] fun Γ _ Θ=>Θ=BP b (Y1 st st.row st.rows) ps::Xa W::Γ:=by
 refine Spec.Us fun hok=>?_;have Sl:st.rows≤8:=by have:=hok.Hu.R8;rw[hok.R]at this;exact this
 refine Zbd Tryz.func47 rfl Tryz.ntmps47 fun w0 Γ=>Zsh ?_;refine S.Xx b st ps fun ub jb mb ov iv dv mv sb l hF=>(ZY 8 (ZY 7 (S.Q6 b st ps ub jb mb ov iv dv mv sb l hF (ZY 3 ?_))));refine Zl (fun fz ρ' Γ'=>∃(e:Nat) (row:Int),fz=st.rows-e∧e≤st.rows∧Y1 st st.row st.rows=Y1 st row (st.rows-e)∧ρ'=[(0,pt b),(2,.int .i64 row),(13,.int .i64 (st.rows:Int)),(14,.int .i64 (e:Int))]∧Γ'=BP b st ps::Xa W::Γ) (m:=_) (⟨0,st.row,rfl,by omega,rfl,rfl,rfl⟩) ?_;rintro fz ρ' Γ' ⟨e,row,hfz,he,hs,rfl,rfl⟩;refine ZY 5 ?_
 refine Zj ef (fun h1=>?_) (fun h1=>?_)
 ·refine S.Xx b st ps fun ub jb mb ov iv dv mv sb l hF=>?_;have hse:st.rows-e=(st.rows-(e+1))+1:=by omega
  rw[hse]at hs;refine ZY 8 (ZY 2 (Zp (Zcp Ze (Go.Proofs.YtdackcibfkkniaaGreatDoor.Q9c mb st.m row) (ZY 8 (ZY 4 ?_)))))
  refine Zi ef (fun h2=>?_) (fun h2=>?_)
  ·have hgs:=hs.trans (Ax (by simpa using h2));refine Zy (S.Q6 b st ps ub jb mb ov iv dv mv sb l hF ?_);exact Zf ef Zq (by rw[hgs])
  ·have hnx:(Yh st.m row).2=true:=by simpa using h2
   obtain⟨z,hz⟩:∃z,z=(Yh st.m row).1:=⟨_,rfl⟩;rw[←hz];have hrl:=Gf hok.Hu z;refine ZY 8 (ZY 6 (Zp (Zc1 Ze (Go.Proofs.YtdackcibfkkniaaGreatDoor.Qp3 mb st.m z hW) ?_)));rintro v Θ ⟨rv,rfl,hrn,rfl⟩;refine S.Q6 b st ps ub jb mb ov iv dv mv sb l hF (Zp (Zc1 Ze (Qn5 b st ps rv (Z9 st.m z) hrn (by omega)) ?_));rintro v Θ ⟨u,rfl,hun,rfl⟩;refine ZY 3 ?_
   refine Zj ef (fun h3=>?_) (fun h3=>?_)
   ·have hgs:=hs.trans (Ay hnx (by rw[←hz];omega));rw[←hz]at hgs;have hfl:=C3 hok.Hu z;have Zfo:=L9 st (Z9 st.m z++Yq st.m z);rw[List.length_append]at Zfo;refine S.Xx b st ps fun ub jb mb ov iv dv mv sb l hF=>(ZY 8 (Zy ?_));refine Zd ([blk b 84 (bC {st with row:=z} ub jb mb ov iv dv mv sb).toArray]) [15] [] ?_;refine ZP 0 [1,2,3,4,5,6,8,9,10,11,12] ef (Z8 rfl) ef (ZY 8 (ZY 3 ?_));refine Z1 (i:=7) ef ef ?_;refine  (Zc1 Ze (Go.Proofs.YtdackcibfkkniaaGreatDoor.Qp3 mb st.m z hW) ?_);rintro v Θ ⟨r2,rfl,Ca,rfl⟩;refine Zk [] ?_;refine Z1 (i:=13) ef ef ?_;refine  (Zc1 Ze (Go.Proofs.YtdackcibfkkniaaGreatDoor.Q9k mb st.m z hW) ?_);rintro v Θ ⟨f2,rfl,hf2,rfl⟩;refine Zk [] ?_;refine Z1 (i:=14) ef ef ?_;refine(S.Qu (s:=r2) (f2.n) (Q9 (Yq st.m z)) Tryz.underlying53 Tryz.Jr.h rfl rfl rfl (fun w hs=>Wx.L3 inferInstance hs) (Q2c _) (⟨by omega,by omega⟩) rfl ?_);intro a2 ha2;rw[show Q9 (Z9 st.m z)++Q9 (Yq st.m z)=Q9 (Z9 st.m z++Yq st.m z) from List.map_append.symm];refine Zk [] ?_;refine Z1 (i:=15) ef ef (S.sub (bX b {st with row:=z} ps ub jb mb ov iv dv mv sb l (own a2 31 1 (Q9 (Z9 st.m z++Yq st.m z))::Xa W::Γ)) ?_);refine S.Q6 b {st with row:=z} ps ub jb mb ov iv dv mv sb l ⟨hok.rset z,hF.perm,hF.on,hF.im,hF.dn,hF.mn,hF.sn⟩ ?_;refine  (Zc1 Ze (Qn5 b {st with row:=z} ps a2 (Z9 st.m z++Yq st.m z) (by rw[List.length_append];omega) (by rw[List.length_append];omega)) ?_);rintro v Θ ⟨u2,rfl,hu2,rfl⟩;refine ZL ([]) [] ?_;refine Z1 (i:=16) ef ef ?_;refine  (Zc1 Ze (Zac b {st with row:=z} ps u2 (Wl {st with row:=z} (Z9 st.m z++Yq st.m z)) hu2 (by show (Wl st _).length≤_;omega) (Qdo (st:={st with row:=z})) hl) ?_);rintro v Θ rfl;rw[show Wl {st with row:=z} (Z9 st.m z++Yq st.m z)=Wl st (Z9 st.m z++Yq st.m z) from rfl];refine Zk [] ?_;refine ZD (Zy ?_);exact Zf ef Zq (by rw[hgs])
   ·have hgs:=hs.trans (Aw hnx (by rw[←hz];omega));rw[←hz]at hgs;refine ZY 2 (Zv (Za ef ef) (ZY 2 ?_));exact ZX (fz-1) (⟨e+1,z,by omega,by omega,hgs,rfl,rfl⟩) (by omega)
 ·rw[show st.rows-e=0 by omega,E0]at hs;refine Zy ?_;exact Zfn ef Zq (by rw[hs])
theorem Qbm{st:Br}{x:Bj}(h:G4 st):G4 (Qx st x):=by
 have Q5:∀(b:Br) (y:Bj),G4 b→(y.state=0→y.Yt=none)→G4 (b.set y):=fun b y hb hy z hz h0=>by
  obtain⟨w,hw,e⟩:=List.mem_map.1 hz
  split at e
  ·subst e;exact hy h0
  ·subst e;exact hb w hw h0
 have Q5d:∀(b:Br) (y:Bj),G4 b→(y.state=0→y.Yt=none)→G4 (Z6 b y):=fun b y hb hy=>by
  unfold Z6
  split
  ·split
   ·exact Q5 {b with m:=(Z0 b.m y.id).2} _ hb fun _=>rfl
   ·intro z hz h0;exact hb z (List.mem_filter.1 hz).1 h0
  ·exact Q5 b y hb hy
 unfold Qx
 split
 ·unfold Y9
  split
  ·exact Q5d _ _ h fun _=>rfl
  ·exact Q5d _ _ h fun _=>rfl
 ·exact h
theorem Bv{f:Br→Bj→Br}(hf:∀st x,G4 st→G4 (f st x)):∀(l:List Nat) {st:Br},G4 st→G4 (each f st l)
 | [],_,h=>h
 | id::l,st,h=>by
  have e:each f st (id::l)=each f (match Qg st.js id with|none=>st|some x=>f st x) l:=rfl;rw[e];cases hg:Qg st.js id with
  | none=>exact Bv hf l h
  | some x=>exact Bv hf l (hf st x h)
abbrev rep(st:Br):Br:={st with m:=(Uu st.m).1}
theorem Qld{st:Br}(h:Q7 st):Q7 (rep st):=by
 have k:=Keep.repack h.Hu;exact h.Qov k.ok k.N k.R
theorem Qaw{st:Br}(h:Q7 st):Q7 (Qs st)∧(Qs st).Qa.length≤st.Qa.length+16*st.js.length:=by
 cases hw:Xd st with
 | nil=>rw[pre_nil hw];exact⟨h,Nat.le_add_right ..⟩
 | cons id l=>
  cases hlv:st.js.any lvB with
  | true=>rw[Qig hlv];exact⟨h,Nat.le_add_right ..⟩
  | false=>
   obtain⟨y,hy,_⟩:=Hb h.Yz (show id∈Xd st by rw[hw];exact List.mem_cons_self ..);rw[Qu2 hw hlv hy];have:=linv Qtg Tn h (Mz h.Yz (y:=y)) _ (Nat.le_refl _);rw[List.take_length]at this
   have hv:(Uy st y).length≤st.js.length:=by
    have h1:(Uy st y).length≤(Gv st).length:=Nat.le_trans (Nat.le_of_eq (List.length_map ..)) (Qcf st.m y.tier y.k (Gv st));have h2:(Gv st).length≤st.js.length:=by rw[Gv,List.length_map];exact List.length_filter_le _ _
    omega
   exact⟨this.ok,by have:=this.ord;omega⟩
theorem Q7.nset{st:Br}(h:Q7 st){n:Nat}(hn:n≤4294967295):Q7 {st with now:=n}:=⟨h.R,h.N,h.Hu,h.Yz,fun x hx=>h.Qm x hx,h.Ev,h.q1,h.q2,h.g1,h.g2,hn,h.fin,h.mem,h.Eu⟩
section
variable {st:Br}{now:Nat}
theorem Qk6(h:now≤st.now):Y3 st now=(12,st):=by rw[Y3,if_pos h]
theorem Qp9(h:¬now≤st.now)(h2:now≤st.hold):Y3 st now=(0,{st with now:=now}):=by rw[Y3,if_neg h,if_pos h2]
theorem Qdf(h:¬now≤st.now)(h2:¬now≤st.hold)(h3:st.stops.isSome=true)(h4:st.Qo=false∧(st.fin≤now∨Qbs st=true)):Y3 st now=(0,F2 {st with now:=now}):=by rw[Y3,if_neg h,if_neg h2,if_pos h3,if_pos h4]
theorem Qhg(h:¬now≤st.now)(h2:¬now≤st.hold)(h3:st.stops.isSome=true)(h4:¬(st.Qo=false∧(st.fin≤now∨Qbs st=true))):Y3 st now=(0,{st with now:=now}):=by rw[Y3,if_neg h,if_neg h2,if_pos h3,if_neg h4]
theorem Qp8(h:¬now≤st.now)(h2:¬now≤st.hold)(h3:st.stops.isSome=false):Y3 st now=(0,Ga {st with now:=now}):=by rw[Y3,if_neg h,if_neg h2,if_neg (by rw[h3];decide)]
end
theorem Qqc{st:Br}(h:Q7 st):Q7 (F2 st):=(h.oset (F2 st).Qa).Q5 true
theorem Lj{f:Br→Bj→Br}(hE:G0 f){st:Br}(h:Q7 st):(each f st st.ids).Qa.length≤st.Qa.length+16000:=by
 have:=Qb8 hE h;have:=h.Ev;omega
theorem Qzu{st:Br}(h:Q7 st)(hw:G4 st):Q7 (Ga st)∧(Ga st).Qa.length≤st.Qa.length+70000:=by
 have h1:=Li Qbn h;have l1:=Lj Qbn h;have w1:G4 (each Qx st st.ids):=Bv (fun st x h=>Qbm h) _ hw;obtain⟨h2,l2⟩:=Rl h1 w1;obtain⟨h3,l3⟩:=Qaw h2;have h4:=Qld h3;have h5:=Li Qh2 h4;have l5:=Lj Qh2 h4;obtain⟨h6,l6⟩:=Qhj h5 (each Yy (rep (Qs (Ya (each Qx st st.ids)))) (rep (Qs (Ya (each Qx st st.ids)))).ids).rows (each Yy (rep (Qs (Ya (each Qx st st.ids)))) (rep (Qs (Ya (each Qx st st.ids)))).ids).row;refine⟨h6,?_⟩;have f1:=h1.Ev;have f2:=h2.Ev;have l5':_≤(Qs (Ya (each Qx st st.ids))).Qa.length+16000:=l5;exact Nat.le_trans l6 (by omega)
set_option maxHeartbeats 4000000 in
theorem Q87(b:Nat)(st:Br)(ps:Nat→Nat)(now:Nat)(Ql6:now≤4294967295)(hw:G4 st)(hl:st.Qa.length≤700000){W:World}(hW:H6 W):Spec Tryz.prog 14 [pt b,.int .u32 (now:Int)] [BP b st ps,Xa W] fun Γ v Θ=>v=.int .i64 (Y3 st now).1∧Θ=BP b (Y3 st now).2 ps::Xa W::Γ:=by
 refine Spec.Us fun hok=>?_;have hokn:=hok.nset Ql6;have B8:=hok.Ev;obtain⟨t,ht⟩:∃t:Br,t={st with now:=now}:=⟨_,rfl⟩;have hokt:Q7 t:=by rw[ht];exact hokn
 have hwt:G4 t:=by rw[ht];exact hw
 have Wq:t.Qa.length≤700000:=by rw[ht];exact hl
 refine Zbd Tryz.func14 rfl Tryz.ntmps14 fun w0 Γ=>Zsh ?_;refine S.Xx b st ps fun ub jb mb ov iv dv mv sb l hF=>(ZY 8 (ZY 4 (ZF ef (ZY 8 (ZY 2 ?_)))))
 refine Zj ef (fun h2=>?_) (fun h2=>?_)
 ·have hg:=Qk6 (st:=st) (now:=now) (by omega);refine ZY 5 (S.Q6 b st ps ub jb mb ov iv dv mv sb l hF ?_);exact Zf ef Zq (⟨by rw[hg];rfl,by rw[hg]⟩)
 ·have h2n:¬now≤st.now:=by omega
  refine ZY 8 (ZY 8 (ZY 3 ?_))
  refine Zj ef (fun h3=>?_) (fun h3=>?_)
  ·have hg:=Qp9 (st:=st) (now:=now) h2n (by omega);refine ZY 5 (S.sub (bX b {st with now:=now} ps ub jb mb ov iv dv mv sb l (Xa W::Γ)) ?_);refine S.Q6 b {st with now:=now} ps ub jb mb ov iv dv mv sb l ⟨hokn,hF.perm,hF.on,hF.im,hF.dn,hF.mn,hF.sn⟩ ?_;exact Zf ef Zq (⟨by rw[hg];rfl,by rw[hg]⟩)
  ·have h3n:¬now≤st.hold:=by omega
   refine ZY 8 (Zv (J7 Tryz.underlying81 rfl rfl) (Zy ?_))
   refine Zi ef (fun h4=>?_) (fun h4=>?_)
   ·have h4s:st.stops.isSome=true:=by rw[←hF.sn];simpa using h4
    refine ZY 8 (Zy ?_)
    refine Zbb 35 ef (fun hg9_5=>?_) (fun hg9_5=>?_)
    ·refine ZY 7 ?_
     refine Zb 42 ef (fun hg9_12=>?_) (fun hg9_12=>?_)
     ·have hg:=Qdf (st:=st) (now:=now) h2n h3n h4s ⟨by simpa using hg9_5,.inl (by omega)⟩;refine ZY 8 ?_;first|(refine S.sub (bX b {st with now:=now} ps ub jb mb ov iv dv mv sb l (Xa W::Γ)) ?_;refine S.Q6 b {st with now:=now} ps ub jb mb ov iv dv mv sb l ⟨hokn,hF.perm,hF.on,hF.im,hF.dn,hF.mn,hF.sn⟩ ?_;rw[←ht])|skip
      refine Zp (Zc1 Ze (Qtv b t ps (by omega)) ?_);rintro v Θ rfl;refine ZY 6 ?_;first|(refine S.sub (bX b {st with now:=now} ps ub jb mb ov iv dv mv sb l (Xa W::Γ)) ?_;refine S.Q6 b {st with now:=now} ps ub jb mb ov iv dv mv sb l ⟨hokn,hF.perm,hF.on,hF.im,hF.dn,hF.mn,hF.sn⟩ ?_;rw[←ht])|skip
      exact Zf ef Zq (⟨by rw[hg];rfl,by rw[hg,←ht]⟩)
     ·refine Zy ?_
      (refine S.sub (bX b {st with now:=now} ps ub jb mb ov iv dv mv sb l (Xa W::Γ)) ?_;refine S.Q6 b {st with now:=now} ps ub jb mb ov iv dv mv sb l ⟨hokn,hF.perm,hF.on,hF.im,hF.dn,hF.mn,hF.sn⟩ ?_;rw[←ht])
      refine Zg ef ef ef (Zcp Ze (Q7j b t ps) ?_);have hid:Qbs t=Qbs st:=by rw[ht];rfl
      refine ZY 3 ?_
      refine Zi ef (fun h5=>?_) (fun h5=>?_)
      ·have hg:=Qdf (st:=st) (now:=now) h2n h3n h4s ⟨by simpa using hg9_5,.inr (by rw[←hid];exact h5)⟩;refine ZY 2 ?_;first|(refine S.sub (bX b {st with now:=now} ps ub jb mb ov iv dv mv sb l (Xa W::Γ)) ?_;refine S.Q6 b {st with now:=now} ps ub jb mb ov iv dv mv sb l ⟨hokn,hF.perm,hF.on,hF.im,hF.dn,hF.mn,hF.sn⟩ ?_;rw[←ht])|skip
       refine Zp (Zc1 Ze (Qtv b t ps (by omega)) ?_);rintro v Θ rfl;refine ZY 6 ?_;first|(refine S.sub (bX b {st with now:=now} ps ub jb mb ov iv dv mv sb l (Xa W::Γ)) ?_;refine S.Q6 b {st with now:=now} ps ub jb mb ov iv dv mv sb l ⟨hokn,hF.perm,hF.on,hF.im,hF.dn,hF.mn,hF.sn⟩ ?_;rw[←ht])|skip
       exact Zf ef Zq (⟨by rw[hg];rfl,by rw[hg,←ht]⟩)
      ·have hg:=Qhg (st:=st) (now:=now) h2n h3n h4s (fun h=>by rcases h.2 with h|h;(exact hg9_12 (by omega));(rw[←hid,h5]at h;cases h));refine ZY 6 ?_;first|(refine S.sub (bX b {st with now:=now} ps ub jb mb ov iv dv mv sb l (Xa W::Γ)) ?_;refine S.Q6 b {st with now:=now} ps ub jb mb ov iv dv mv sb l ⟨hokn,hF.perm,hF.on,hF.im,hF.dn,hF.mn,hF.sn⟩ ?_;rw[←ht])|skip
       exact Zf ef Zq (⟨by rw[hg];rfl,by rw[hg,←ht]⟩)
    ·have hg:=Qhg (st:=st) (now:=now) h2n h3n h4s (fun h=>by rw[h.1]at hg9_5;cases hg9_5);refine ZY 8 (ZY 8 (ZY 3 ?_));first|(refine S.sub (bX b {st with now:=now} ps ub jb mb ov iv dv mv sb l (Xa W::Γ)) ?_;refine S.Q6 b {st with now:=now} ps ub jb mb ov iv dv mv sb l ⟨hokn,hF.perm,hF.on,hF.im,hF.dn,hF.mn,hF.sn⟩ ?_;rw[←ht])|skip
     exact Zf ef Zq (⟨by rw[hg];rfl,by rw[hg,←ht]⟩)
   ·have h4s:st.stops.isSome=false:=by rw[←hF.sn];simpa using h4
    have hg:=Qp8 (st:=st) (now:=now) h2n h3n h4s
    (refine S.sub (bX b {st with now:=now} ps ub jb mb ov iv dv mv sb l (Xa W::Γ)) ?_;refine S.Q6 b {st with now:=now} ps ub jb mb ov iv dv mv sb l ⟨hokn,hF.perm,hF.on,hF.im,hF.dn,hF.mn,hF.sn⟩ ?_;rw[←ht])
    obtain⟨t1,ht1⟩:∃t1,t1=each Qx t t.ids:=⟨_,rfl⟩;obtain⟨t2,ht2⟩:∃t2,t2=Ya t1:=⟨_,rfl⟩;obtain⟨t3,ht3⟩:∃t3,t3=Qs t2:=⟨_,rfl⟩;obtain⟨t4,ht4⟩:∃t4,t4=rep t3:=⟨_,rfl⟩;obtain⟨t5,ht5⟩:∃t5,t5=each Yy t4 t4.ids:=⟨_,rfl⟩;have o1:Q7 t1:=by rw[ht1];exact Li Qbn hokt
    have w1:G4 t1:=by rw[ht1];exact Bv (fun st x h=>Qbm h) _ hwt
    have l1:t1.Qa.length≤t.Qa.length+16000:=by rw[ht1];exact Lj Qbn hokt
    have o2:Q7 t2∧t2.Qa.length≤t1.Qa.length+16*t1.js.length:=by rw[ht2];exact Rl o1 w1
    have o3:Q7 t3∧t3.Qa.length≤t2.Qa.length+16*t2.js.length:=by rw[ht3];exact Qaw o2.1
    have o4:Q7 t4:=by rw[ht4];exact Qld o3.1
    have l4:t4.Qa.length=t3.Qa.length:=by rw[ht4]
    have o5:Q7 t5∧t5.Qa.length≤t4.Qa.length+16000:=by rw[ht5];exact⟨Li Qh2 o4,Lj Qh2 o4⟩
    have f1:=o1.Ev;have f2:=o2.1.Ev;have hwk:Ga t=Y1 t5 t5.row t5.rows:=by rw[ht5,ht4,ht3,ht2,ht1];rfl
    refine ZY 4 (Zp (Zc1 Ze (Q1y b t ps (by omega)) ?_));rintro v Θ rfl;rw[←ht1];refine ZY 4 (Zp (Zc1 Ze (Q07 b t1 ps w1 (by omega)) ?_));rintro v Θ rfl;rw[←ht2];refine ZY 4 (Zp (Zc1 Ze (Qqv b t2 ps (by omega) hW) ?_));rintro v Θ rfl;rw[←ht3];refine ZY 3 ?_;refine S.Xx b t3 ps fun ub jb mb ov iv dv mv sb l hF=>(ZY 5 (Zp (Zc1 Ze (Go.Proofs.YtdackcibfkkniaaGreatDoor.Qy8 mb t3.m hW) ?_)));rintro v Θ ⟨c,sv,rfl,Km,rfl⟩;refine ZY 8 (ZY 2 (S.sub (bX b (rep t3) ps ub jb c ov iv dv mv sb l (Xa W::Γ)) ?_));refine S.Q6 b (rep t3) ps ub jb c ov iv dv mv sb l ⟨by rw[←ht4];exact o4,hF.perm,hF.on,hF.im,hF.dn,hF.mn,hF.sn⟩ ?_;rw[←ht4];refine Zp (Zc1 Ze (Q0j b t4 ps (by omega)) ?_);rintro v Θ rfl;rw[←ht5];refine ZY 4 (Zp (Zc1 Ze (Qz7 b t5 ps (by omega) hW) ?_));rintro v Θ rfl;refine ZY 6 ?_;exact Zf ef Zq (⟨by rw[hg];rfl,by rw[hg,←ht,hwk]⟩)
structure Sm3(b b':Br)(i d j:Nat):Prop where
 im:b'.Qe.length≤b.Qe.length+i
 dn:b'.done.length≤b.done.length+d
 js:b'.js.length≤b.js.length+j
 nodes:b'.nodes=b.nodes
theorem Sm3.refl(b:Br):Sm3 b b 0 0 0:=⟨Nat.le_refl _,Nat.le_refl _,Nat.le_refl _,rfl⟩
theorem Sm3.trans{a b c:Br}{i d j i' d' j':Nat}(h:Sm3 a b i d j)(k:Sm3 b c i' d' j'):Sm3 a c (i+i') (d+d') (j+j'):=⟨by have:=h.im;have:=k.im;omega,by have:=h.dn;have:=k.dn;omega,by have:=h.js;have:=k.js;omega,k.nodes.trans h.nodes⟩
theorem Sm3.tr0{a b c:Br}{i d j:Nat}(h:Sm3 a b 0 0 0)(k:Sm3 b c i d j):Sm3 a c i d j:=by have:=h.trans k;simpa using this
theorem Sm3.le{a b:Br}{i d j i' d' j':Nat}(h:Sm3 a b i d j)(h1:i≤i')(h2:d≤d')(h3:j≤j'):Sm3 a b i' d' j':=⟨by have:=h.im;omega,by have:=h.dn;omega,by have:=h.js;omega,h.nodes⟩
theorem Sm3.set(b:Br)(x:Bj):Sm3 b (b.set x) 0 0 0:=⟨Nat.le_refl _,Nat.le_refl _,by show (Yo b.js x).length≤_;rw[Jk];exact Nat.le_refl _,rfl⟩
theorem Sm3.gone(b:Br)(x:Bj):Sm3 b (Z6 b x) 0 0 0:=by
 unfold Z6
 split
 ·split
  ·exact⟨Nat.le_refl _,Nat.le_refl _,by show (Yo b.js _).length≤_;rw[Jk];exact Nat.le_refl _,rfl⟩
  ·exact⟨Nat.le_refl _,Nat.le_refl _,List.length_filter_le _ _,rfl⟩
 ·exact .set b x
theorem Sm3.drop(b:Br)(x:Bj)(a:Bool):Sm3 b (Y9 b x a) 0 0 0:=by
 unfold Y9
 split
 ·exact .gone b _
 ·exact(show Sm3 b {b with Qa:=b.Qa++(V7 b x).map (Xp x.id)} 0 0 0 from ⟨Nat.le_refl _,Nat.le_refl _,Nat.le_refl _,rfl⟩).tr0 (.gone _ _)
theorem Sm3.finish(b:Br)(x:Bj):Sm3 b (Q0 b x) 0 1 0:=by
 unfold Q0
 split
 ·exact(Sm3.set b x).le (by omega) (by omega) (by omega)
 ·have h:=Sm3.drop {b with done:=b.done++[x.id]} {x with done:=true} false;exact⟨h.im,by have:=h.dn;simp only[List.length_append,List.length_singleton]at this;omega,h.js,h.nodes⟩
theorem Sm3.save(b:Br)(x:Bj):Sm3 b (Yy b x) 0 0 0:=by
 by_cases hc:x.work=x.Qb∨x.Yt.isSome∨x.Qi.isSome∨x.state≠2
 ·rw[Wb hc];exact .set b x
 ·rw[We hc];exact⟨Nat.le_refl _,Nat.le_refl _,by show (Yo b.js _).length≤_;rw[Jk];exact Nat.le_refl _,rfl⟩
theorem Sm3.count(b:Br)(x:Bj):Sm3 b (Zz b x) 0 0 0:=by
 unfold Zz
 split
 ·exact .set b x
 ·split
  ·exact .set b _
  ·exact .save b _
theorem Sm3.each{f:Br→Bj→Br}(hf:∀b x,Sm3 b (f b x) 0 0 0):∀(l:List Nat) (b:Br),Sm3 b (each f b l) 0 0 0
 | [],b=>.refl b
 | id::l,b=>by
  have e:BN.each f b (id::l)=BN.each f (match Qg b.js id with|none=>b|some x=>f b x) l:=rfl;rw[e];cases Qg b.js id with
  | none=>exact Sm3.each hf l b
  | some x=>exact(hf b x).tr0 (Sm3.each hf l _)
theorem Sm3.Qdh(b:Br)(n:Nat):Sm3 b (Qw b n) 0 0 0:=by
 unfold Qw
 split
 ·exact .refl b
 ·split
  ·exact⟨Nat.le_refl _,Nat.le_refl _,Nat.le_refl _,rfl⟩
  ·exact(show Sm3 b {b with stops:=none,Qo:=false} 0 0 0 from ⟨Nat.le_refl _,Nat.le_refl _,Nat.le_refl _,rfl⟩).tr0 (.each Sm3.count _ _)
theorem Sm3.lost(b:Br)(n:Int):Sm3 b (V1 b n).2 0 0 0:=by
 unfold V1
 split
 ·exact .refl b
 ·refine Sm3.tr0 (b:=BN.each (Yk n.toNat) {b with up:=Vx b.up n.toNat,m:=(Go.Proofs.YtdackcibfkkniaaGreatDoor.upR b.m n false).2,Qa:=b.Qa.filter fun o=>decide (o.1≠n.toNat)} b.ids) ?_ (.Qdh _ _);refine(show Sm3 b {b with up:=Vx b.up n.toNat,m:=(Go.Proofs.YtdackcibfkkniaaGreatDoor.upR b.m n false).2,Qa:=b.Qa.filter fun o=>decide (o.1≠n.toNat)} 0 0 0 from ⟨Nat.le_refl _,Nat.le_refl _,Nat.le_refl _,rfl⟩).tr0 (.each (fun b x=>?_) _ _);unfold Yk
  split
  ·split
   ·exact .drop b x true
   ·exact .gone b _
  ·exact .refl b
theorem Sm3.heard(b:Br)(n:Nat)(x:Nt):Sm3 b (W4 b n x) 0 0 0:=by
 unfold W4
 split
 ·refine Sm3.tr0 ?_ (.Qdh _ _)
  split
  ·exact .refl b
  ·split
   ·exact .refl b
   ·split
    ·exact .set b _
    ·exact .refl b
 ·exact .refl b
theorem Sm3.saved(b:Br)(x:Bj)(n:Nat)(t:Nt)(bl:List Int):Sm3 b (Wy b x n t bl) 1 0 0:=by
 have hr:=(Sm3.refl b).le (Nat.zero_le 1) (Nat.le_refl 0) (Nat.le_refl 0);unfold Wy
 split
 ·exact hr
 ·split
  ·exact hr
  ·split
   ·exact hr
   ·dsimp only
    split
    ·exact⟨by show (b.Qe++[_]).length≤_;rw[List.length_append,List.length_singleton];exact Nat.le_refl _,Nat.le_refl _,by show (Yo b.js _).length≤_;rw[Jk];exact Nat.le_refl _,rfl⟩
    ·exact(Sm3.set b _).le (Nat.zero_le 1) (Nat.le_refl 0) (Nat.le_refl 0)
theorem Sm3.hear(b:Br)(n:Int)(t:Nt)(bl:List Int):Sm3 b (X6 b n t bl).2 1 0 0:=by
 have l1:∀ {c:Br},Sm3 b c 0 0 0→Sm3 b c 1 0 0:=fun h=>h.le (Nat.zero_le 1) (Nat.le_refl 0) (Nat.le_refl 0);unfold X6
 split
 ·exact l1 (.refl b)
 split
 ·exact l1 (.heard b _ _)
 split
 ·exact l1 (.refl b)
 split
 ·show Sm3 b (Wt b _ _ t bl) 1 0 0;unfold Wt
  split
  ·split
   ·exact l1 (.set b _)
   ·exact l1 (.refl b)
  split
  ·exact .saved b _ _ t bl
  split
  ·split
   ·exact l1 (.refl b)
   ·exact l1 (.gone b _)
  ·exact l1 (.refl b)
 ·exact l1 (.refl b)
theorem Sm3.published(b:Br)(id ver:Nat)(ok:Bool):Sm3 b (Qr b id ver ok).2 0 1 0:=by
 have hr:=(Sm3.refl b).le (Nat.le_refl 0) (Nat.zero_le 1) (Nat.le_refl 0);unfold Qr
 split
 ·exact hr
 split
 ·exact hr
 split
 ·exact hr
 ·exact .finish b _
theorem Sm3.cancel(b:Br)(id:Nat):Sm3 b (Yr b id).2 0 0 0:=by
 unfold Yr
 split
 ·exact .refl b
 split
 ·exact .drop b _ false
 split
 ·exact .set b _
 ·exact .refl b
theorem Sm3.load(b:Br)(x:Bj)(s:PL.St):Sm3 b (V3 b x s) 0 0 0:=by
 by_cases hp:(X7 b.m x.id s.row s.nodes).1≠0
 ·rw[U5 hp];exact⟨Nat.le_refl _,Nat.le_refl _,Nat.le_refl _,rfl⟩
 ·rw[V2 hp];exact⟨Nat.le_refl _,Nat.le_refl _,by show (Yo b.js _).length≤_;rw[Jk];exact Nat.le_refl _,rfl⟩
theorem Sm3.place(l:List (Nat×PL.St)):∀b:Br,Sm3 b (Yp b l) 0 0 0:=by
 induction l with
 | nil=>exact fun b=>.refl b
 | cons p l ih=>
  intro b;have e:Yp b (p::l)=Yp (Vg b p) l:=by rw[Xq,Xq];rfl
  rw[e];refine Sm3.tr0 ?_ (ih _);unfold Vg
  split
  ·split
   ·exact .refl b
   ·exact .load b _ _
  ·exact .refl b
theorem Sm3.preempt(b:Br):Sm3 b (Qs b) 0 0 0:=by
 unfold Qs
 split
 ·exact .refl b
 split
 ·exact .refl b
 split
 ·exact .refl b
 ·exact .each (f:=Vv) (fun b x=>⟨Nat.le_refl _,Nat.le_refl _,by show (Yo b.js _).length≤_;rw[Jk];exact Nat.le_refl _,rfl⟩) _ _
theorem Sm3.run(b:Br)(l:List Nat):Sm3 b (Qfi b l) 0 0 0:=
 (show Sm3 b (D0 b l) 0 0 0 from ⟨Nat.le_refl _,Nat.le_refl _,Nat.le_refl _,rfl⟩).tr0 (.each (f:=W6) (fun b x=>⟨Nat.le_refl _,Nat.le_refl _,by show (Yo b.js _).length≤_;rw[Jk];exact Nat.le_refl _,rfl⟩) _ _)
theorem Sm3.start(b:Br):∀(i:Nat) (row:Int),Sm3 b (Y1 b row i) 0 0 0
 | 0,_=>.refl b
 | i+1,row=>by
  rw[Y1]
  split
  ·exact .refl b
  split
  ·exact(show Sm3 b {b with row:=(Yh b.m row).1} 0 0 0 from ⟨Nat.le_refl _,Nat.le_refl _,Nat.le_refl _,rfl⟩).tr0 (.run _ _)
  ·exact .start b i _
theorem Sm3.leave(b:Br)(x:Bj):Sm3 b (Qx b x) 0 0 0:=by
 unfold Qx
 split
 ·exact .drop b x true
 ·exact .refl b
theorem Sm3.work(b:Br):Sm3 b (Ga b) 0 0 0:=by
 have h1:=Sm3.each Sm3.leave b.ids b;have h2:=h1.tr0 (Sm3.place (zsR (BN.each Qx b b.ids)) _);have h3:=h2.tr0 (Sm3.preempt _);have h4:=h3.tr0 (show Sm3 _ (rep (Qs (Ya (BN.each Qx b b.ids)))) 0 0 0 from ⟨Nat.le_refl _,Nat.le_refl _,Nat.le_refl _,rfl⟩);have h5:=h4.tr0 (Sm3.each Sm3.save (rep (Qs (Ya (BN.each Qx b b.ids)))).ids _);exact h5.tr0 (Sm3.start _ _ _)
theorem Sm3.tick(b:Br)(now:Nat):Sm3 b (Y3 b now).2 0 0 0:=by
 unfold Y3
 split
 ·exact .refl b
 split
 ·exact⟨Nat.le_refl _,Nat.le_refl _,Nat.le_refl _,rfl⟩
 split
 ·split
  ·exact⟨Nat.le_refl _,Nat.le_refl _,Nat.le_refl _,rfl⟩
  ·exact⟨Nat.le_refl _,Nat.le_refl _,Nat.le_refl _,rfl⟩
 ·exact(show Sm3 b {b with now:=now} 0 0 0 from ⟨Nat.le_refl _,Nat.le_refl _,Nat.le_refl _,rfl⟩).tr0 (.work _)
theorem Tu{b:Br}(h:Q7 b)(hw:G4 b){now:Nat}(hn:now≤4294967295):Q7 (Y3 b now).2∧(Y3 b now).2.Qa.length≤b.Qa.length+70000:=by
 unfold Y3
 split
 ·exact⟨h,Nat.le_add_right ..⟩
 split
 ·exact⟨h.nset hn,Nat.le_add_right ..⟩
 split
 ·split
  ·refine⟨Qqc (h.nset hn),?_⟩;show (b.Qa++_).length≤_;rw[List.length_append,List.length_map]
   have h1:((List.range b.nodes).filter fun n=>decide (n∈b.stops.getD [])).length≤b.nodes:=by
    have:=List.length_filter_le (fun n=>decide (n∈b.stops.getD [])) (List.range b.nodes)
    rwa [List.length_range]at this
   have h1:(List.filter (fun n=>decide (n∈({b with now:=now}:Br).stops.getD [])) (List.range ({b with now:=now}:Br).nodes)).length≤b.nodes:=h1;have:=h.Bz;omega
  ·exact⟨h.nset hn,Nat.le_add_right ..⟩
 ·exact Qzu (h.nset hn) hw
end BN
end Go.Proofs.YtdackcibfkkniaaGreatDoor
