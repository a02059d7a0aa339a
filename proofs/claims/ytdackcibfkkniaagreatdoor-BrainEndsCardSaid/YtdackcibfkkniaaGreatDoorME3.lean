/- Texts put together. -/
import Derived.Test.YtdackcibfkkniaaGreatDoorME2
set_option synthInstance.maxSize 9999
set_option synthInstance.maxHeartbeats 400000
set_option maxRecDepth 20000
namespace Go.Proofs.YtdackcibfkkniaaGreatDoor
open Go.RowKit
open Go.Sort
theorem PermIn.E3{a b i j:Nat}{d e:Array Int}(h:PermIn a b d e)(l:a≤i)(k:i<b)(g:a≤j)(f:j<b)(c:b≤d.size):PermIn a b d (swp e i j):=
 permIn_trans _ _ _ _ _ h (swp_permIn e a b i j l k g f (by rw[h.1];exact c))
theorem Qzu(s:SV)(d:Array Int)(a b:Nat)(x:a<b)(v:b≤d.size)(D:d.size≤65535)(C:s.n=d.size):Spec Tryz.prog 160 [s.v,.int .i64 (a:Int),.int .i64 (b:Int)] [own s 31 1 (uA d)] fun Γ _ r=>∃e,PermIn a b d e∧r=own s 31 1 (uA e)::Γ:=by
 refine Zbd Tryz.func160 rfl Tryz.ntmps160 fun z Γ=>Zsh ?_;refine S.Q7 s Qb fun sb A c _ _ _=>(ZY 8 (Zv (Zm ef ef) (ZY 3 ?_)));refine Zl (fun q f g=>∃(i j:Nat) (o n:Int) (e:Array Int),q=j-i∧o=i∧n=j∧a≤i∧i≤b∧j<b∧e.size=d.size∧PermIn a b d e∧f=[(0,s.v),(6,.int .i64 o),(7,.int .i64 n)]∧g=own s 31 1 (uA e)::Γ) (m:=_) (⟨a,b-1,a,(b:Int)-1,d,rfl,rfl,Qb,Qb,Qb,Qb,rfl,permIn_refl _ _ _,rfl,rfl⟩) ?_;rintro q f g ⟨i,j,o,n,e,B,k,h,w,u,t,p,l,rfl,rfl⟩;refine ZY 7 ?_
 refine Zj ef (fun y=>?_) (fun y=>?_)
 ·refine ZY 3 ?_;refine Zd ([own s 31 1 (uA e)]) [13] [0,1] (ZY 2 ?_);refine ZP 2 [] ef (Y8 rfl) ef ?_;refine ZP 3 (Zra 4 9) ef (Y8 rfl) ef (ZY 2 ?_);refine Zw ef (Zx (j) ef (c) ef Qb (h)) ?_;refine Zw ef (Zo (s) (j) ef (c) (Yx Qb)) (ZY 2 ?_);refine Zw ef (Zx (i) ef (c) ef Qb (k)) ?_;refine Zw ef (Zo (s) (i) ef (c) (Yx Qb)) ?_;refine Zw ef (Zx (i) ef (c) ef Qb (k)) ?_;refine Z1 (i:=13) ef ef ?_;refine(S.Xa (s) (i) Eo.h rfl rfl rfl c (by first|rfl|exact Xr _ _ _|omega) (by rw[Vm];omega) (Vl _ _ _) ?_);refine ZL ([]) [14] ?_;refine Zw ef (Zx (j) ef (c) ef Qb (h)) ?_;refine Z1 (i:=15) ef ef ?_;refine(S.Xa (s) (j) Eo.h rfl rfl rfl c (by first|rfl|exact Xr _ _ _|omega) (by rw[Vm,Gt];omega) (show _=uA (Go.Sort.swp e (i) (j)) from Vl _ _ _) ?_);refine Zk [] ?_;refine ZD (ZY 3 (Zv (Za ef ef) (ZY 4 (Zv (Zm ef ef) (ZY 2 ?_)))));exact ZX (q-1-1) (⟨i+1,j-1,o+1,n-1,swp e i j,Qb,Qb,Qb,Qb,Qb,Qb,by rw[E3,p],PermIn.E3 (a:=a) (b:=b) (d:=d) (e:=e) l Qb Qb Qb Qb v,rfl,rfl⟩) Qb
 ·refine Zy ?_;exact Zfn ef Zq (⟨e,l,rfl⟩)
theorem Qg8(s:SV)(d:Array Int)(x y p:Nat)(k K:Int)(g:x<d.size)(f:y<d.size)(m:0≤k∧k≤K)(n:K≤1000)(o:s.n=d.size):Spec Tryz.prog 217 [s.v,.int .i64 (x:Int),.int .i64 (y:Int),.pointer (some ⟨p,0,none⟩)] [own s 31 1 (uA d),blk p 3 #[.int .i64 k]] fun Γ v e=>
  ∃(u b:Nat) (c:Int),(u=x∧b=y∨u=y∧b=x)∧(0≤c∧c≤K+1)∧v=.tuple #[.int .i64 (u:Int),.int .i64 (b:Int)]∧e=own s 31 1 (uA d)::blk p 3 #[.int .i64 c]::Γ:=by
 refine Zbd Tryz.func217 rfl Tryz.ntmps217 fun j Γ=>Zsh ?_;refine S.Q7 s Qb fun sb l a _ _ _=>(ZY 7 ?_);refine Zd ([own s 31 1 (uA d),blk p 3 #[.int .i64 k]]) [] (Zra 0 8) (ZY 2 ?_);refine Zw ef (Zx (y) ef (a) ef Qb) ?_;refine Zw ef (Zo (s) (y) ef (a) (Yx f)) (ZY 2 ?_);refine Zw ef (Zx (x) ef (a) ef Qb) ?_;refine Zw ef (Zo (s) (x) ef (a) (Yx g)) ?_;refine Z1 (i:=8) ef ef ?_;refine  (Zcp Ze (H2 (d[y]!) (d[x]!)) ?_);refine Zk [] ?_;refine ZD ?_
 refine Zi ef (fun h=>?_) (fun h=>?_)
 ·refine ZY 5 (Zv (Za ef ef) (ZY 8 (ZY 3 ?_)));exact Zf ef Zq (⟨y,x,k+1,.inr ⟨rfl,rfl⟩,Qb,rfl,rfl⟩)
 ·refine ZY 8 (Zy ?_);exact Zf ef Zq (⟨x,y,k,.inl ⟨rfl,rfl⟩,Qb,rfl,rfl⟩)
theorem Qqh(s:SV)(d:Array Int)(x y z p:Nat)(k K:Int)(q:x<d.size)(o:y<d.size)(n:z<d.size)(t:0≤k∧k≤K)(C:K≤900)(f:s.n=d.size):Spec Tryz.prog 191 [s.v,.int .i64 (x:Int),.int .i64 (y:Int),.int .i64 (z:Int),.pointer (some ⟨p,0,none⟩)] [own s 31 1 (uA d),blk p 3 #[.int .i64 k]] fun Γ v a=>
  ∃(u:Nat) (b:Int),(u=x∨u=y∨u=z)∧(0≤b∧b≤K+3)∧v=.int .i64 (u:Int)∧a=own s 31 1 (uA d)::blk p 3 #[.int .i64 b]::Γ:=by
 refine Zbd Tryz.func191 rfl Tryz.ntmps191 fun B Γ=>Zsh (ZY 8 (ZY 2 (Zp (Zc1 Ze (Qg8 s d x y p k K q o t Qb f) ?_))));rintro v a ⟨j,i,k1,F,e,rfl,rfl⟩;refine ZY 8 (ZY 4 (Zp (Zc1 Ze (Qg8 s d i z p k1 (K+1) Qb n e Qb f) ?_)));rintro v a ⟨h,w,m,E,c,rfl,rfl⟩;refine ZY 8 (ZY 4 (Zp (Zc1 Ze (Qg8 s d j h p m (K+1+1) Qb Qb c Qb f) ?_)));rintro v a ⟨A,g,l,D,r,rfl,rfl⟩;refine ZY 8 (ZY 4 ?_);exact Zf ef Zq (⟨g,l,Qb,Qb,rfl,rfl⟩)
theorem Lu(s:SV)(d:Array Int)(x p:Nat)(k K:Int)(e:0<x)(f:x+1<d.size)(m:d.size≤65535)(g:0≤k∧k≤K)(h:K≤900)(i:s.n=d.size):Spec Tryz.prog 190 [s.v,.int .i64 (x:Int),.pointer (some ⟨p,0,none⟩)] [own s 31 1 (uA d),blk p 3 #[.int .i64 k]] fun Γ v c=>
  ∃(u:Nat) (a:Int),(x≤u+1∧u≤x+1)∧(0≤a∧a≤K+3)∧v=.int .i64 (u:Int)∧c=own s 31 1 (uA d)::blk p 3 #[.int .i64 a]::Γ:=by
 refine Zbd Tryz.func190 rfl Tryz.ntmps190 fun j Γ=>Zsh (ZY 8 (Zv (Zm ef ef) (ZY 2 (Zv (Za ef ef) (Zy ?_)))));refine Zp (Zc1 Ze ((by rw[show ((x:Int)-1)=((x-1:Nat):Int) by omega];exact Qqh s d (x-1) x (x+1) p k K Qb Qb f g h i)) ?_);rintro v c ⟨u,a,l,b,rfl,rfl⟩;refine ZY 3 ?_;exact Zf ef Zq (⟨u,a,Qb,b,rfl,rfl⟩)
theorem Q73(s:SV)(d:Array Int)(a b:Nat)(D:a+12<b)(M:b≤d.size)(x:d.size≤65535)(p:s.n=d.size):Spec Tryz.prog 159 [s.v,.int .i64 (a:Int),.int .i64 (b:Int)] [own s 31 1 (uA d)] fun Γ v m=>
  ∃(u:Nat) (h:Int),(a≤u∧u<b)∧v=.tuple #[.int .i64 (u:Int),.int .i64 h]∧m=own s 31 1 (uA d)::Γ:=by
 refine Zbd Tryz.func159 rfl Tryz.ntmps159 fun J Γ=>Zsh ?_;obtain⟨i,C⟩:∃i:Nat,(i:Int)=a+(b-a) / 4*1:=⟨a+(b-a) / 4*1,Qb⟩;obtain⟨j,B⟩:∃j:Nat,(j:Int)=a+(b-a) / 4*2:=⟨a+(b-a) / 4*2,Qb⟩;obtain⟨l,z⟩:∃l:Nat,(l:Int)=a+(b-a) / 4*3:=⟨a+(b-a) / 4*3,Qb⟩;refine ZY 8 (Zy (Zv (Zm ef ef) (ZY 4 (Zp (S.alloc Tryz.z3.h rfl ?_)))));intro g;refine ZY 5 ?_;refine Zv (Qdz rfl rfl (⟨Qb,Qb⟩) (Xy Qb Qb)) (Zv (Ll rfl rfl (Xy Qb Qb)) (Zv (Za ef ef) (ZY 6 ?_)));refine Zv (Qdz rfl rfl (⟨Qb,Qb⟩) (Xy Qb Qb)) (Zv (Ll rfl rfl (Xy Qb Qb)) (Zv (Za ef ef) (ZY 6 ?_)));refine Zv (Qdz rfl rfl (⟨Qb,Qb⟩) (Xy Qb Qb)) (Zv (Ll rfl rfl (Xy Qb Qb)) (Zv (Za ef ef) (ZY 5 ?_)));rw[←C,←B,←z];refine ZY 3 ?_
 refine Zj ef (fun H=>?_) (fun H=>?_)
 ·refine ZY 6 ?_
  refine Zc (fun k n=>∃(i2 f c:Nat) (e:Int),(a≤i2∧i2<b)∧(a≤f∧f<b)∧(a≤c∧c<b)∧(0≤e∧e≤9)∧k=[(0,s.v),(9,.pointer (some ⟨g,0,none⟩)),(10,.int .i64 (i2:Int)),(11,.int .i64 (f:Int)),(12,.int .i64 (c:Int))]∧n=own s 31 1 (uA d)::blk g 3 #[.int .i64 e]::Γ) ?_ ?_
  ·refine Zj ef (fun G=>?_) (fun G=>?_)
   ·refine ZY 4 (Zp (Zc1 Ze (Lu s d i g 0 0 Qb Qb x Qb Qb p) ?_));rintro v m ⟨i2,k1,w,r,rfl,rfl⟩;refine ZY 6 (Zp (Zc1 Ze (Lu s d j g k1 (0+3) Qb Qb x r Qb p) ?_));rintro v m ⟨f,y,t,q,rfl,rfl⟩;refine ZY 5 (Zp (Zc1 Ze (Lu s d l g y (0+3+3) Qb Qb x q Qb p) ?_));rintro v m ⟨c,e,I,o,rfl,rfl⟩;refine ZY 2 ?_;first|exact S.meet ⟨i2,f,c,e,Qb,Qb,Qb,Qb,rfl,rfl⟩ ⟨rfl,rfl,rfl,rfl,rfl,trivial⟩ Sub.Qs|exact S.meet ⟨i,j,l,0,Qb,Qb,Qb,Qb,rfl,rfl⟩ ⟨rfl,rfl,rfl,rfl,rfl,trivial⟩ Sub.Qs
   ·refine Zy ?_;first|exact S.meet ⟨i2,f,c,e,Qb,Qb,Qb,Qb,rfl,rfl⟩ ⟨rfl,rfl,rfl,rfl,rfl,trivial⟩ Sub.Qs|exact S.meet ⟨i,j,l,0,Qb,Qb,Qb,Qb,rfl,rfl⟩ ⟨rfl,rfl,rfl,rfl,rfl,trivial⟩ Sub.Qs
  ·rintro k n ⟨i2,f,c,e,w,t,I,o,rfl,rfl⟩;refine ZY 5 (Zp (Zc1 Ze (Qqh s d i2 f c g e 9 Qb Qb Qb o Qb p) ?_));rintro v m ⟨u,K,L,A,rfl,rfl⟩;refine ZY 8 (ZY 4 ?_)
   refine Zj ef (fun F=>?_) (fun F=>?_)
   ·refine ZY 7 ?_;exact Zf ef Zq (⟨u,1,Qb,rfl,rfl⟩)
   ·refine ZY 5 ?_
    refine Zj ef (fun E=>?_) (fun E=>?_)
    ·refine ZY 7 ?_;exact Zf ef Zq (⟨u,2,Qb,rfl,rfl⟩)
    ·refine ZY 7 ?_;exact Zf ef Zq (⟨u,0,Qb,rfl,rfl⟩)
 ·omega
section
variable {P:Program}{n:Nat}{ρ:Env}{Γ:List Assn}{ty:TypeId}{pos:String}{af:Array Edge}{gd:Option (Nat×Bool)}{ds:Option Tmp}
theorem Qtf{t c:TypeId}{x y:Operand}{k d:IntKind}{p q:Int}(m:Nat)(f:ev ρ x=some (.int k p))(e:ev ρ y=some (.int d q))(g:q=((m:Nat):Int))(h:Nat.ble m k.bits=true):Qv P n ρ Γ ⟨ds,.binOp .shl t x y c,ty,pos,af,gd⟩ (.int k (k.wrap (p*2 ^ m))):=fun a w b _=>by
 subst g;have h0:¬((m:Int)<0):=Qb
 have i:min m k.bits=m:=Ny (Qbj h);simp[execOp,b.ev f,b.ev e,eqGuard,binOp,Op.shift,h0,i]
abbrev Q9t(p q:Int):Int:=IntKind.u64.wrap ((BitVec.ofInt 64 p ^^^ BitVec.ofInt 64 q).toNat:Int)
theorem Qte{t c:TypeId}{x y:Operand}{p q:Int}(e:ev ρ x=some (.int .u64 p))(d:ev ρ y=some (.int .u64 q)):Qv P n ρ Γ ⟨ds,.binOp .xor t x y c,ty,pos,af,gd⟩ (.int .u64 (Q9t p q)):=fun a w b _=>by
 simp[execOp,b.ev e,b.ev d,eqGuard,binOp,Op.intBits,IntKind.bits];rfl
abbrev Q8i(p q:Int):Int:=IntKind.u64.wrap ((BitVec.ofInt 64 p &&& BitVec.ofInt 64 q).toNat:Int)
theorem Zhf{t c:TypeId}{x y:Operand}{p q:Int}(e:ev ρ x=some (.int .u64 p))(d:ev ρ y=some (.int .u64 q)):Qv P n ρ Γ ⟨ds,.binOp .and t x y c,ty,pos,af,gd⟩ (.int .u64 (Q8i p q)):=fun a w b _=>by
 simp[execOp,b.ev e,b.ev d,eqGuard,binOp,Op.intBits,IntKind.bits];rfl
theorem Q96{q:Int}(a:0≤q∧q≤18446744073709551615):(BitVec.ofInt 64 q).toNat=q.toNat:=by
 have e:((2 ^ 64:Nat):Int)=18446744073709551616:=Qp
 rw[BitVec.toNat_ofInt,e,Int.emod_eq_of_lt a.1 Qb]
theorem Zeb(p:Int){q:Int}(a:0≤q∧q≤18446744073709551615):0≤Q8i p q∧Q8i p q≤q:=by
 have c:=Q96 a
 have d:(BitVec.ofInt 64 p &&& BitVec.ofInt 64 q).toNat≤q.toNat:=by
  rw[Qv2,←c];exact Nat.and_le_right
 have b:Q8i p q=((BitVec.ofInt 64 p &&& BitVec.ofInt 64 q).toNat:Int):=G6 (Qd6 Qb Qb);rw[b];omega
def Zlm(bs:ByteArray):Bool:=(List.range 256).all fun i=>match bs[i]? with
 | some b=>b.toNat==bitsLen i
 | none=>false
theorem Qw7{t:TypeId}{x y:Operand}{bs:ByteArray}{d:IntKind}{z:Int}(i:Nat)(k:P.underlying t=some .string)(j:ev ρ x=some (.string bs))(m:Zlm bs=true)(g:ev ρ y=some (.int d z))(f:z=((i:Nat):Int))(l:i<256):Qv P n ρ Γ ⟨ds,.index t x y,ty,pos,af,gd⟩ (.int .u8 ((bitsLen i:Nat):Int)):=fun a w c _=>by
 subst f;have h:=Kn.1 m i (C3.2 l);cases e:bs[i]? with
 | none=>rw[e]at h;cases h
 | some b=>
  rw[e]at h;have h:b.toNat=bitsLen i:=by simpa using h
  simp[execOp,c.ev j,c.ev g,Instr.index,asIntOf,run_underlying k,e,h]
end
theorem Qrx{x:Nat}(h:256≤x):bitsLen x=bitsLen (x / 256)+8:=by
 have key:∀k,bitsLen x≤k↔bitsLen (x / 256)+8≤k:=fun k=>by
  rw[bitsLen_le_iff]
  by_cases c:k<8
  ·have b:2 ^ k≤2 ^ 8:=Nat.pow_le_pow_right Qb Qb
   constructor
   ·intro a;omega
   ·intro a;omega
  ·obtain⟨m,rfl⟩:∃m,k=m+8:=⟨k-8,Qb⟩;have b:=bitsLen_le_iff (x / 256) m;have a:x / 256<2 ^ m↔x<2 ^ (m+8):=by rw[Nat.div_lt_iff_lt_mul Qb,Nat.pow_add]
   rw[←a,←b];omega
 have b:=(key _).1 (Q1 _);have a:=(key _).2 (Q1 _);omega
theorem Zem(x:Nat)(k:x<65536):Spec Tryz.prog 166 [.int .u64 (x:Int)] [] fun Γ v d=>v=.int .i64 (bitsLen x:Nat)∧d=Γ:=by
 refine Zbd Tryz.func166 rfl Tryz.ntmps166 fun j Γ=>Zsh ?_;have a:∀i,i<256→bitsLen i≤8:=fun i e=>(bitsLen_le_iff i 8).2 e;refine ZY 8 (ZY 2 ?_)
 refine Zj ef (fun h=>?_) (fun h=>?_)
 ·omega
 ·refine ZY 7 ?_
  refine Zj ef (fun g=>?_) (fun g=>?_)
  ·omega
  ·refine ZY 7 ?_
   refine Zj ef (fun f=>?_) (fun f=>?_)
   ·have e3:((x:Int) / 2 ^ 8)=((x / 256:Nat):Int):=Qb
    have b:=a (x / 256) Qb;have c:(0:Int)+8+(bitsLen (x / 256):Nat)=(bitsLen x:Nat):=by rw[Qrx (x:=x) Qb];omega
    refine ZY 3 (Zv (Qw2 8 rfl rfl rfl rfl) (ZY 4 (Zv (Za ef ef) (ZY 6 ?_))));refine Zv (Vu Tryz.it5.h (by rw[Tryz.underlying225];rfl) rfl (Zcn Qb Qb)) (Zv (Qw7 _ Tryz.underlying9 rfl (by kernel_rfl) rfl e3 Qb) ?_);refine Zv (Vu Tryz.it3.h (by rw[Tryz.underlying5];rfl) rfl (Xy Qb Qb)) (Zv (Za ef ef) (ZY 3 ?_));exact Zf ef Zq (⟨by simp only[Vt];rw[c],rfl⟩)
   ·have e3:(x:Int)=((x:Nat):Int):=rfl;have b:=a x Qb;have c:(0:Int)+(bitsLen x:Nat)=(bitsLen x:Nat):=Qb
    refine ZY 5 ?_;refine Zv (Vu Tryz.it5.h (by rw[Tryz.underlying225];rfl) rfl (Zcn Qb Qb)) (Zv (Qw7 _ Tryz.underlying9 rfl (by kernel_rfl) rfl e3 Qb) ?_);refine Zv (Vu Tryz.it3.h (by rw[Tryz.underlying5];rfl) rfl (Xy Qb Qb)) (Zv (Za ef ef) (ZY 3 ?_));exact Zf ef Zq (⟨by simp only[Vt];rw[c],rfl⟩)
theorem Zgf(x:Nat)(b:x<65536):Spec Tryz.prog 138 [.int .u64 (x:Int)] [] fun Γ v a=>v=.int .i64 (bitsLen x:Nat)∧a=Γ:=by
 refine Zbd Tryz.func138 rfl Tryz.ntmps138 fun c Γ=>Zsh (ZY 5 (ZF ef (ZY 4 (Zp (Zcp Ze (Zem x b) (ZY 3 ?_))))));exact Zf ef Zq (⟨rfl,rfl⟩)
theorem Q0i(x:Nat)(a:0<x)(d:x<65536):Spec Tryz.prog 188 [.int .i64 (x:Int)] [] fun Γ v c=>∃p:Int,(x<p∧p≤2*x)∧v=.int .u64 p∧c=Γ:=by
 refine Zbd Tryz.func188 rfl Tryz.ntmps188 fun f Γ=>Zsh ?_;have h:=lt_two_pow_bitsLen x;have g:=two_pow_bitsLen_le a;have e:bitsLen x≤16:=(bitsLen_le_iff x 16).2 Qb;have e2:((1:Int)*2 ^ bitsLen x)=((2 ^ bitsLen x:Nat):Int):=by rw[Int.one_mul];norm_cast
 have b:IntKind.u64.wrap ((1:Int)*2 ^ bitsLen x)=((2 ^ bitsLen x:Nat):Int):=by rw[e2];exact G6 (Qd6 Qb Qb)
 refine ZY 7 ?_;refine Zv (Vu Tryz.Ze8.h (by rw[Tryz.underlying3];rfl) rfl (Qd6 Qb Qb)) (Zp (Zcp Ze (Zgf x d) (Zv (Qtf (bitsLen x) rfl rfl rfl (Nat.ble_eq_true_of_le (Up e Qp))) (ZY 3 ?_))));exact Zf ef Zq (⟨_,⟨by rw[b];omega,by rw[b];omega⟩,rfl,rfl⟩)
theorem Qzf(b:Nat)(r:Int):Spec Tryz.prog 189 [.pointer (some ⟨b,0,none⟩)] [blk b 270 #[.int .u64 r]] fun Γ v e=>∃d,v=.int .u64 d∧e=blk b 270 #[.int .u64 d]::Γ:=by
 refine Zbd Tryz.func189 rfl Tryz.ntmps189 fun f Γ=>Zsh (ZY 5 ?_);refine Zd ([blk b 270 #[.int .u64 r]]) [9] (Zra 0 9) (ZY 6 ?_);refine Zw ef (Qtf 13 rfl rfl rfl rfl) ?_;refine Zw ef (Qte rfl rfl) (Zy ?_);refine Z1 (i:=9) ef ef ?_;generalize Q9t r (IntKind.u64.wrap (r*2 ^ 13))=c
 refine(S.store (cs':=[_]) Eo.h rfl rfl rfl rfl rfl ?_);refine ZL ([]) [] ?_;refine ZD (Zy ?_);refine Zd ([blk b 270 #[.int .u64 c]]) [9] (Zra 0 9) (ZY 6 ?_);refine Zw ef (Qw2 7 rfl rfl rfl rfl) ?_;refine Zw ef (Qte rfl rfl) (Zy ?_);refine Z1 (i:=9) ef ef ?_;generalize Q9t c (c / 2 ^ 7)=a
 refine(S.store (cs':=[_]) Eo.h rfl rfl rfl rfl rfl ?_);refine ZL ([]) [] ?_;refine ZD (Zy ?_);refine Zd ([blk b 270 #[.int .u64 a]]) [9] (Zra 0 9) (ZY 6 ?_);refine Zw ef (Qtf 17 rfl rfl rfl rfl) ?_;refine Zw ef (Qte rfl rfl) (Zy ?_);refine Z1 (i:=9) ef ef ?_;generalize Q9t a (IntKind.u64.wrap (a*2 ^ 17))=g
 refine(S.store (cs':=[_]) Eo.h rfl rfl rfl rfl rfl ?_);refine ZL ([]) [] ?_;refine ZD (ZY 8 ?_);exact Zf ef Zq (⟨_,rfl,rfl⟩)
theorem Zd9(s:SV)(d:Array Int)(a b:Nat)(H:a+12<b)(F:b≤d.size)(R:d.size≤65535)(Q:s.n=d.size):Spec Tryz.prog 158 [s.v,.int .i64 (a:Int),.int .i64 (b:Int)] [own s 31 1 (uA d)] fun Γ _ u=>∃e,PermIn a b d e∧u=own s 31 1 (uA e)::Γ:=by
 refine Zbd Tryz.func158 rfl Tryz.ntmps158 fun L Γ=>Zsh ?_;refine S.Q7 s Qb fun sb M g _ _ _=>?_;obtain⟨l,E⟩:∃l:Nat,(l:Int)=(b:Int)-a:=⟨b-a,Qb⟩;refine ZY 4 (Zv (Zm ef ef) (ZY 7 ?_))
 refine Zj ef (fun K=>?_) (fun K=>?_)
 ·refine ZY 3 ?_;rw[←E];refine Zv (Vu Tryz.Zlq.h (by rw[Tryz.underlying3];rfl) rfl (Qd6 Qb Qb)) (Zp (S.alloc Tryz.Zor.h rfl ?_));intro n;refine ZY 5 (Zp (Zc1 Ze (Q0i l Qb Qb) ?_));rintro v u ⟨p,O,rfl,rfl⟩;refine ZY 6 ?_;refine Zv (Qdz rfl rfl (⟨Qb,Qb⟩) (Xy Qb Qb)) (Zv (Ll rfl rfl (Xy Qb Qb)) (Zv (Za ef ef) (Zv (Zm ef ef) (ZY 3 ?_))));refine Zl (fun q c f=>∃(x:Nat) (h:Int) (r:Int) (e:Array Int),q=a+l-x∧h=x∧a≤x∧x≤a+l / 4*2+2∧e.size=d.size∧PermIn a b d e∧c=[(0,s.v),(1,.int .i64 (a:Int)),(6,.int .i64 (l:Int)),(7,.pointer (some ⟨n,0,none⟩)),(8,.int .u64 p),(9,.int .i64 h)]∧f=own s 31 1 (uA e)::blk n 270 #[.int .u64 r]::Γ) (m:=_) (⟨a+l / 4*2-1,(a:Int)+(l:Int) / 4*2-1,(l:Int),d,rfl,Qb,Qb,Qb,rfl,permIn_refl _ _ _,rfl,rfl⟩) ?_;rintro q c f ⟨x,h,r,e,N,j,G,P,A,k,rfl,rfl⟩;refine ZY 6 ?_;refine Zv (Qdz rfl rfl (⟨Qb,Qb⟩) (Xy Qb Qb)) (Zv (Ll rfl rfl (Xy Qb Qb)) (Zv (Za ef ef) (Zv (Za ef ef) (ZY 2 ?_))))
  refine Zj ef (fun J=>?_) (fun J=>?_)
  ·refine ZY 5 (Zp (Zc1 Ze (Qzf n r) ?_));rintro v u ⟨t,rfl,rfl⟩;refine Zy (Zv (Qkh rfl rfl (Qd6 Qb Qb)) (Zv (Zhf rfl rfl) ?_));obtain⟨o,D⟩:∃o,o=Q8i t (p-1):=⟨_,rfl⟩;have z:=Zeb t (q:=p-1) ⟨Qb,Qb⟩;rw[←D]at z ⊢;refine Zv (Vu Tryz.it3.h (by rw[Tryz.underlying215];rfl) rfl (Xy Qb Qb)) (ZY 8 (Zy ?_))
   refine Zc (fun c f=>∃(y:Nat) (w:Int),w=y∧y<l∧c=[(0,s.v),(1,.int .i64 (a:Int)),(6,.int .i64 (l:Int)),(7,.pointer (some ⟨n,0,none⟩)),(8,.int .u64 p),(9,.int .i64 h),(10,.int .i64 w)]∧f=own s 31 1 (uA e)::blk n 270 #[.int .u64 t]::Γ) ?_ ?_
   ·refine Zj ef (fun I=>?_) (fun I=>?_)
    ·refine ZY 3 (Zv (Zm ef ef) (ZY 2 ?_));first|exact S.meet ⟨(o-l).toNat,o-l,Qb,Qb,rfl,rfl⟩ ⟨rfl,rfl,rfl,rfl,rfl,rfl,rfl,trivial⟩ Sub.Qs|exact S.meet ⟨o.toNat,o,Qb,Qb,rfl,rfl⟩ ⟨rfl,rfl,rfl,rfl,rfl,rfl,rfl,trivial⟩ Sub.Qs
    ·refine Zy ?_;first|exact S.meet ⟨(o-l).toNat,o-l,Qb,Qb,rfl,rfl⟩ ⟨rfl,rfl,rfl,rfl,rfl,rfl,rfl,trivial⟩ Sub.Qs|exact S.meet ⟨o.toNat,o,Qb,Qb,rfl,rfl⟩ ⟨rfl,rfl,rfl,rfl,rfl,rfl,rfl,trivial⟩ Sub.Qs
   ·rintro c f ⟨y,w,B,C,rfl,rfl⟩;refine Zd ([own s 31 1 (uA e)]) [17] [0,1] (ZY 2 ?_);refine ZP 2 [] ef (Y8 rfl) ef ?_;refine ZP 3 [] ef (Y8 rfl) ef ?_;refine ZP 4 [] ef (Y8 rfl) ef ?_;refine ZP 5 (Zra 6 11) ef (Bm rfl rfl (Xy Qb Qb)) ef (ZY 3 ?_);refine Zw ef (Za ef ef) ?_;refine Zw ef (Zx (a+y) ef (g) ef Qb (Qb)) ?_;refine Zw ef (Zo (s) (a+y) ef (g) (Yx Qb)) (ZY 2 ?_);refine Zw ef (Zx (x) ef (g) ef Qb (j)) ?_;refine Zw ef (Zo (s) (x) ef (g) (Yx Qb)) ?_;refine Zw ef (Zx (x) ef (g) ef Qb (j)) ?_;refine Z1 (i:=17) ef ef ?_;refine(S.Xa (s) (x) Eo.h rfl rfl rfl g (by first|rfl|exact Xr _ _ _|omega) (by rw[Vm];omega) (Vl _ _ _) ?_);refine ZL ([]) [18] ?_;refine Zw ef (Zx (a+y) ef (g) ef Qb (Qb)) ?_;refine Z1 (i:=19) ef ef ?_;refine(S.Xa (s) (a+y) Eo.h rfl rfl rfl g (by first|rfl|exact Xr _ _ _|omega) (by rw[Vm,Gt];omega) (show _=uA (Go.Sort.swp e (x) (a+y)) from Vl _ _ _) ?_);refine Zk [] ?_;refine ZD (ZY 2 (Zv (Za ef ef) (ZY 2 ?_)));exact ZX (q-1) (⟨x+1,h+1,t,swp e x (a+y),Qb,Qb,Qb,Qb,by rw[E3,A],PermIn.E3 (a:=a) (b:=b) (d:=d) (e:=e) k Qb Qb Qb Qb F,rfl,rfl⟩) Qb
  ·refine Zy ?_;exact Zfn ef Zq (⟨e,k,rfl⟩)
 ·omega
open Go.Sort
section
variable {e:Array Int}{a b i j:Nat}
theorem scanSorted_stop(h:¬(i<b∧ltInt e[i]! e[i-1]! = false)):scanSorted ltInt e b i=i:=by
 rw[scanSorted,Qe]
 simpa using h
theorem Qeh(h:i<b)(a:ltInt e[i]! e[i-1]! = false):scanSorted ltInt e b i=scanSorted ltInt e b (i+1):=by
 conv=>lhs;rw[scanSorted,Qh (by rw[a,Zh h];rfl)]
theorem shiftDown_stop(h:¬(1≤j∧ltInt e[j]! e[j-1]! = true)):shiftDown ltInt j e=e:=by
 cases j with
 | zero=>rfl
 | succ j=>
  rw[shiftDown,Qh];simp only[Qdc]at h;cases a:ltInt e[j+1]! e[j]! with
  | false=>rfl
  | true=>exact absurd ⟨Qb,a⟩ h
theorem Qf4(h:1≤j)(a:ltInt e[j]! e[j-1]! = true):shiftDown ltInt j e=shiftDown ltInt (j-1) (swp e j (j-1)):=by
 cases j with
 | zero=>omega
 | succ j=>
  simp only[Qdc]at a ⊢;rw[shiftDown,Qe (by rw[a];simp)]
theorem shiftUp_stop(h:¬(j<b∧ltInt e[j]! e[j-1]! = true)):shiftUp ltInt b j e=e:=by
 rw[shiftUp]
 by_cases a:j<b
 ·rw[Qh a,Qh];cases c:ltInt e[j]! e[j-1]! with
  | false=>rfl
  | true=>exact absurd ⟨a,c⟩ h
 ·rw[Qe a]
theorem Qmi(h:j<b)(a:ltInt e[j]! e[j-1]! = true):shiftUp ltInt b j e=shiftUp ltInt b (j+1) (swp e j (j-1)):=by
 conv=>lhs;rw[shiftUp,Qh h,Qe (by rw[a];simp)]
theorem Gw{p:Int→Bool}(h:¬(i≤j∧p e[i]! = true)):scanUp p e j i=i:=by
 rw[scanUp,Qe]
 simpa using h
theorem Lf{p:Int→Bool}(h:i≤j)(a:p e[i]! = true):scanUp p e j i=scanUp p e j (i+1):=by
 conv=>lhs;rw[scanUp,Qh (by rw[a,Zh h];rfl)]
theorem J5{p:Int→Bool}(h:¬(i≤j∧p e[j]! = true)):scanDown p e i j=j:=by
 cases j with
 | zero=>rfl
 | succ j=>
  rw[scanDown,Qe]
  simpa using h
theorem B6{p:Int→Bool}(b:1≤j)(h:i≤j)(a:p e[j]! = true):scanDown p e i j=scanDown p e i (j-1):=by
 cases j with
 | zero=>omega
 | succ j=>
  simp only[Qdc];rw[scanDown,Qh (by rw[a,Zh h];rfl)]
theorem Se{p q:Int→Bool}(c:∀x,q x=!p x)(b:1≤i)(a:i≤j+1):i≤scanUp p e j i∧scanUp p e j i≤j+1∧scanDown q e (scanUp p e j i) j≤j∧scanUp p e j i≤scanDown q e (scanUp p e j i) j+1∧(¬scanUp p e j i > scanDown q e (scanUp p e j i) j→scanUp p e j i<scanDown q e (scanUp p e j i) j):=by
 obtain⟨m,l,k,g,_,_,f⟩:=round_facts p q c e (i-1) (j+1) i j Qb a (fun t b d=>Qb) (fun t b d=>Qb);exact⟨m,l,k,g,fun h=>(f h).2.2⟩
end
theorem Qm5(s:SV)(d:Array Int)(a b:Nat)(a3:a<b)(hb:b≤d.size)(C7:d.size≤65535)(Jq:s.n=d.size):Spec Tryz.prog 161 [s.v,.int .i64 (a:Int),.int .i64 (b:Int)] [own s 31 1 (uA d)] fun B v U=>v=.bool (partialInsertionSort ltInt d a b).2∧U=own s 31 1 (uA (partialInsertionSort ltInt d a b).1)::B:=by
 refine Zbd Tryz.func161 rfl Tryz.ntmps161 fun w0 B=>Zsh ?_;refine S.Q7 s Qb fun sb so n _ _ _=>(ZY 7 (Zv (Za ef ef) (ZY 8 ?_)));refine Zl (fun q c l=>∃(k i:Nat) (e:Array Int),q=5-k∧k≤5∧a<i∧i≤b∧e.size=d.size∧partialIns ltInt a b (5-k) i e=partialInsertionSort ltInt d a b∧c=[(0,s.v),(1,.int .i64 (a:Int)),(2,.int .i64 (b:Int)),(7,.int .i64 (i:Int)),(8,.int .i64 (k:Int))]∧l=own s 31 1 (uA e)::B) (m:=_) (⟨0,a+1,d,rfl,Qb,Qb,Qb,rfl,rfl,rfl,rfl⟩) ?_;rintro q c l ⟨k,i,e,hq,hk,a2,a1,E,u,rfl,rfl⟩;refine ZY 6 ?_
 refine Zj ef (fun h1=>?_) (fun h1=>?_)
 ·refine ZY 2 ?_
  refine Zc (fun c l=>∃(i2:Nat) (g:Array Int),a<i2∧i2≤b∧g.size=d.size∧partialIns ltInt a b (5-(k+1)) i2 g=partialInsertionSort ltInt d a b∧c=[(0,s.v),(1,.int .i64 (a:Int)),(2,.int .i64 (b:Int)),(7,.int .i64 (i2:Int)),(8,.int .i64 (k:Int))]∧l=own s 31 1 (uA g)::B) ?_ ?_
  ·refine ZY 2 ?_
   refine Zc (fun c l=>∃i2:Nat,i2=scanSorted ltInt e b i∧a<i2∧i2≤b∧c=[(0,s.v),(1,.int .i64 (a:Int)),(2,.int .i64 (b:Int)),(7,.int .i64 (i2:Int)),(8,.int .i64 (k:Int))]∧l=own s 31 1 (uA e)::B) ?_ ?_
   ·refine Zy ?_;refine Zl (fun q2 c l=>∃o:Nat,q2=b-o∧a<o∧o≤b∧scanSorted ltInt e b o=scanSorted ltInt e b i∧c=[(0,s.v),(1,.int .i64 (a:Int)),(2,.int .i64 (b:Int)),(7,.int .i64 (o:Int)),(8,.int .i64 (k:Int))]∧l=own s 31 1 (uA e)::B) (m:=_) (⟨i,rfl,Qb,Qb,rfl,rfl,rfl⟩) ?_;rintro q2 c l ⟨o,X,T,R,G,rfl,rfl⟩;refine ZY 2 ?_;refine Zd ([own s 31 1 (uA e)]) [] (Zra 0 4) (ZY 4 ?_)
    refine Zb 20 ef (fun y=>?_) (fun y=>?_)
    ·refine Zr (Zra 4 9) (ZY 2 ?_);refine Zwg ef ef ef ef (Zx (o) ef (n) ef Qb) ?_;refine Zwg ef ef ef ef (Zo (s) (o) ef (n) (Yx Qb)) (ZY 2 ?_);refine Zwg ef ef ef ef (Zm ef ef) ?_;refine Zwg ef ef ef ef (Zx (o - 1) ef (n) ef Qb (Qb)) ?_;refine Zwg ef ef ef ef (Zo (s) (o - 1) ef (n) (Yx Qb)) ?_;refine Z1g (i:=13) ef ef ef ef ef (rfl) ?_;refine  (Zcp Ze (H2 (e[o]!) (e[o - 1]!)) ?_);refine Zk [14,15] (ZY 2 ?_);refine ZD ?_
     refine Zi ef (fun J=>?_) (fun J=>?_)
     ·have H:scanSorted ltInt e b o=scanSorted ltInt e b (o+1):=Qeh Qb (by simpa using J);refine ZY 4 (Zv (Za ef ef) (ZY 2 ?_));exact ZX (q2-1) (⟨o+1,Qb,Qb,Qb,H.symm.trans G,rfl,rfl⟩) Qb
     ·have x:scanSorted ltInt e b o=o:=scanSorted_stop (fun h=>by rw[h.2]at J;cases J);refine Zy ?_;exact ZM ⟨o,x.symm.trans G,Qb,Qb,rfl,rfl⟩
    ·have x:scanSorted ltInt e b o=o:=scanSorted_stop (fun h=>y Qb);refine Zr (Zra 4 12) (ZY 8 (ZY 4 ?_));refine ZD (ZY 2 ?_);exact ZM ⟨o,x.symm.trans G,Qb,Qb,rfl,rfl⟩
   ·rintro c l ⟨i2,M,P,O,rfl,rfl⟩;have r:(if i2=b then (e,true) else if b-a<50 then (e,false) else partialIns ltInt a b (5-(k+1)) i2 (fixUp ltInt b i2 (fixDown ltInt a i2 (swp e i2 (i2-1)))))=partialInsertionSort ltInt d a b:=by rw[←u,show 5-k=(5-(k+1))+1 by omega,partialIns_succ,←M]
    refine ZY 7 ?_
    refine Zj ef (fun h3=>?_) (fun h3=>?_)
    ·rw[Qh Qb]at r;refine ZY 5 ?_;exact Zf ef Zq (⟨by rw[←r];first|done|rfl,by rw[←r]⟩)
    ·refine ZY 6 (Zv (Zm ef ef) (ZY 2 ?_))
     refine Zj ef (fun h4=>?_) (fun h4=>?_)
     ·rw[Qe Qb,Qh Qb]at r;refine ZY 5 ?_;exact Zf ef Zq (⟨by rw[←r];first|done|rfl,by rw[←r]⟩)
     ·rw[Qe Qb,Qe Qb]at r;refine ZY 2 ?_;refine Zd ([own s 31 1 (uA e)]) [15] [0,1] (ZY 2 ?_);refine ZP 2 [] ef (Y8 rfl) ef ?_;refine ZP 3 [] ef (Y8 rfl) ef ?_;refine ZP 4 (Zra 5 10) ef (Qkh rfl rfl (Xy Qb Qb)) ef (ZY 2 ?_);refine Zw ef (Zm ef ef) ?_;refine Zw ef (Zx (i2-1) ef (n) ef Qb (Qb)) ?_;refine Zw ef (Zo (s) (i2-1) ef (n) (Yx Qb)) (ZY 2 ?_);refine Zw ef (Zx (i2) ef (n) ef Qb) ?_;refine Zw ef (Zo (s) (i2) ef (n) (Yx Qb)) ?_;refine Zw ef (Zx (i2) ef (n) ef Qb) ?_;refine Z1 (i:=15) ef ef ?_;refine(S.Xa (s) (i2) Eo.h rfl rfl rfl n (by first|rfl|exact Xr _ _ _|omega) (by rw[Vm];omega) (Vl _ _ _) ?_);refine ZL ([]) [16] ?_;refine Zw ef (Zx (i2-1) ef (n) ef Qb (Qb)) ?_;refine Z1 (i:=17) ef ef ?_;refine(S.Xa (s) (i2-1) Eo.h rfl rfl rfl n (by first|rfl|exact Xr _ _ _|omega) (by rw[Vm,Gt];omega) (show _=uA (Go.Sort.swp e (i2) (i2-1)) from Vl _ _ _) ?_);refine Zk [] ?_;refine ZD (ZY 5 (Zv (Zm ef ef) (ZY 2 ?_)))
      refine Zc (fun c l=>∃f:Array Int,f.size=d.size∧f=fixDown ltInt a i2 (swp e i2 (i2-1))∧c=[(0,s.v),(1,.int .i64 (a:Int)),(2,.int .i64 (b:Int)),(7,.int .i64 (i2:Int)),(8,.int .i64 (k:Int))]∧l=own s 31 1 (uA f)::B) ?_ ?_
      ·refine Zj ef (fun h5=>?_) (fun h5=>?_)
       ·have t:fixDown ltInt a i2 (swp e i2 (i2-1))=shiftDown ltInt (i2-1) (swp e i2 (i2-1)):=Qh Qb;refine ZY 3 (Zv (Zm ef ef) (ZY 3 ?_));refine Zl (fun q3 c l=>∃(j:Nat) (z:Int) (f:Array Int),q3=j∧z=j∧j<i2∧f.size=d.size∧shiftDown ltInt j f=shiftDown ltInt (i2-1) (swp e i2 (i2-1))∧c=[(0,s.v),(1,.int .i64 (a:Int)),(2,.int .i64 (b:Int)),(7,.int .i64 (i2:Int)),(8,.int .i64 (k:Int)),(9,.int .i64 z)]∧l=own s 31 1 (uA f)::B) (m:=_) (⟨i2-1,(i2:Int)-1,swp e i2 (i2-1),rfl,Qb,Qb,by rw[E3,E],rfl,rfl,rfl⟩) ?_;rintro q3 c l ⟨j,z,f,W,L,Y,p,D,rfl,rfl⟩;refine ZY 6 ?_
        refine Zj ef (fun h6=>?_) (fun h6=>?_)
        ·refine ZY 5 ?_;refine Zd ([own s 31 1 (uA f)]) [] (Zra 0 9) (ZY 2 ?_);refine Zw ef (Zx (j) ef (n) ef Qb (L)) ?_;refine Zw ef (Zo (s) (j) ef (n) (Yx Qb)) (ZY 2 ?_);refine Zw ef (Zm ef ef) ?_;refine Zw ef (Zx (j-1) ef (n) ef Qb (Qb)) ?_;refine Zw ef (Zo (s) (j-1) ef (n) (Yx Qb)) ?_;refine Z1 (i:=9) ef ef ?_;refine  (Zcp Ze (H2 (f[j]!) (f[j-1]!)) ?_);refine Zk [10] (Zy ?_);refine ZD ?_
         refine Zi ef (fun I=>?_) (fun I=>?_)
         ·have x:shiftDown ltInt j f=f:=shiftDown_stop (fun h=>by rw[h.2]at I;cases I);refine Zy ?_;first|exact S.meet ⟨f,p,(x.symm.trans D).trans t.symm,rfl,rfl⟩ ⟨rfl,rfl,rfl,rfl,rfl,trivial⟩ Sub.Qs|exact S.meet ⟨swp e i2 (i2-1),by rw[E3,E],t.symm,rfl,rfl⟩ ⟨rfl,rfl,rfl,rfl,rfl,trivial⟩ Sub.Qs
         ·have H:shiftDown ltInt j f=shiftDown ltInt (j-1) (swp f j (j-1)):=Qf4 Qb (by simpa using I);refine Zy ?_;refine Zd ([own s 31 1 (uA f)]) [15] [0,1] (ZY 2 ?_);refine ZP 2 [] ef (Y8 rfl) ef ?_;refine ZP 3 [] ef (Y8 rfl) ef ?_;refine ZP 4 (Zra 5 10) ef (Qkh rfl rfl (Xy Qb Qb)) ef (ZY 2 ?_);refine Zw ef (Zm ef ef) ?_;refine Zw ef (Zx (j-1) ef (n) ef Qb (Qb)) ?_;refine Zw ef (Zo (s) (j-1) ef (n) (Yx Qb)) (ZY 2 ?_);refine Zw ef (Zx (j) ef (n) ef Qb (L)) ?_;refine Zw ef (Zo (s) (j) ef (n) (Yx Qb)) ?_;refine Zw ef (Zx (j) ef (n) ef Qb (L)) ?_;refine Z1 (i:=15) ef ef ?_;refine(S.Xa (s) (j) Eo.h rfl rfl rfl n (by first|rfl|exact Xr _ _ _|omega) (by rw[Vm];omega) (Vl _ _ _) ?_);refine ZL ([]) [16] ?_;refine Zw ef (Zx (j-1) ef (n) ef Qb (Qb)) ?_;refine Z1 (i:=17) ef ef ?_;refine(S.Xa (s) (j-1) Eo.h rfl rfl rfl n (by first|rfl|exact Xr _ _ _|omega) (by rw[Vm,Gt];omega) (show _=uA (Go.Sort.swp f (j) (j-1)) from Vl _ _ _) ?_);refine Zk [] ?_;refine ZD (ZY 2 (Zv (Zm ef ef) (ZY 2 ?_)));exact ZX (j-1) (⟨j-1,z-1,swp f j (j-1),rfl,Qb,Qb,by rw[E3,p],H.symm.trans D,rfl,rfl⟩) Qb
        ·have x:shiftDown ltInt j f=f:=shiftDown_stop (fun h=>Qb);refine Zy ?_;first|exact S.meet ⟨f,p,(x.symm.trans D).trans t.symm,rfl,rfl⟩ ⟨rfl,rfl,rfl,rfl,rfl,trivial⟩ Sub.Qs|exact S.meet ⟨swp e i2 (i2-1),by rw[E3,E],t.symm,rfl,rfl⟩ ⟨rfl,rfl,rfl,rfl,rfl,trivial⟩ Sub.Qs
       ·have t:fixDown ltInt a i2 (swp e i2 (i2-1))=swp e i2 (i2-1):=Qe Qb;refine Zy ?_;first|exact S.meet ⟨f,p,(x.symm.trans D).trans t.symm,rfl,rfl⟩ ⟨rfl,rfl,rfl,rfl,rfl,trivial⟩ Sub.Qs|exact S.meet ⟨swp e i2 (i2-1),by rw[E3,E],t.symm,rfl,rfl⟩ ⟨rfl,rfl,rfl,rfl,rfl,trivial⟩ Sub.Qs
      ·rintro c l ⟨f,p,N,rfl,rfl⟩;rw[←N]at r;refine ZY 4 (Zv (Zm ef ef) (ZY 2 ?_))
       refine Zj ef (fun h8=>?_) (fun h8=>?_)
       ·have A:fixUp ltInt b i2 f=shiftUp ltInt b (i2+1) f:=Qh Qb;refine ZY 3 (Zv (Za ef ef) (ZY 3 ?_));refine Zl (fun K c l=>∃(j:Nat) (g:Array Int),K=b-j∧i2<j∧j≤b∧g.size=d.size∧shiftUp ltInt b j g=shiftUp ltInt b (i2+1) f∧c=[(0,s.v),(1,.int .i64 (a:Int)),(2,.int .i64 (b:Int)),(7,.int .i64 (i2:Int)),(8,.int .i64 (k:Int)),(10,.int .i64 (j:Int))]∧l=own s 31 1 (uA g)::B) (m:=_) (⟨i2+1,f,rfl,Qb,Qb,p,rfl,rfl,rfl⟩) ?_;rintro K c l ⟨j,g,V,a0,Z,w,C,rfl,rfl⟩;refine ZY 7 ?_
        refine Zj ef (fun h9=>?_) (fun h9=>?_)
        ·refine ZY 5 ?_;refine Zd ([own s 31 1 (uA g)]) [] (Zra 0 9) (ZY 2 ?_);refine Zw ef (Zx (j) ef (n) ef Qb) ?_;refine Zw ef (Zo (s) (j) ef (n) (Yx Qb)) (ZY 2 ?_);refine Zw ef (Zm ef ef) ?_;refine Zw ef (Zx (j-1) ef (n) ef Qb (Qb)) ?_;refine Zw ef (Zo (s) (j-1) ef (n) (Yx Qb)) ?_;refine Z1 (i:=9) ef ef ?_;refine  (Zcp Ze (H2 (g[j]!) (g[j-1]!)) ?_);refine Zk [10] (Zy ?_);refine ZD ?_
         refine Zi ef (fun F=>?_) (fun F=>?_)
         ·have x:shiftUp ltInt b j g=g:=shiftUp_stop (fun h=>by rw[h.2]at F;cases F);refine Zy ?_;first|exact S.meet ⟨i2,g,Qb,Qb,w,by rw[←(x.symm.trans C).trans A.symm]at r;exact r,rfl,rfl⟩ ⟨rfl,rfl,rfl,rfl,rfl,trivial⟩ Sub.Qs|exact S.meet ⟨i2,f,Qb,Qb,p,r,rfl,rfl⟩ ⟨rfl,rfl,rfl,rfl,rfl,trivial⟩ Sub.Qs
         ·have H:shiftUp ltInt b j g=shiftUp ltInt b (j+1) (swp g j (j-1)):=Qmi Qb (by simpa using F);refine Zy ?_;refine Zd ([own s 31 1 (uA g)]) [15] [0,1] (ZY 2 ?_);refine ZP 2 [] ef (Y8 rfl) ef ?_;refine ZP 3 [] ef (Y8 rfl) ef ?_;refine ZP 4 (Zra 5 10) ef (Qkh rfl rfl (Xy Qb Qb)) ef (ZY 2 ?_);refine Zw ef (Zm ef ef) ?_;refine Zw ef (Zx (j-1) ef (n) ef Qb (Qb)) ?_;refine Zw ef (Zo (s) (j-1) ef (n) (Yx Qb)) (ZY 2 ?_);refine Zw ef (Zx (j) ef (n) ef Qb) ?_;refine Zw ef (Zo (s) (j) ef (n) (Yx Qb)) ?_;refine Zw ef (Zx (j) ef (n) ef Qb) ?_;refine Z1 (i:=15) ef ef ?_;refine(S.Xa (s) (j) Eo.h rfl rfl rfl n (by first|rfl|exact Xr _ _ _|omega) (by rw[Vm];omega) (Vl _ _ _) ?_);refine ZL ([]) [16] ?_;refine Zw ef (Zx (j-1) ef (n) ef Qb (Qb)) ?_;refine Z1 (i:=17) ef ef ?_;refine(S.Xa (s) (j-1) Eo.h rfl rfl rfl n (by first|rfl|exact Xr _ _ _|omega) (by rw[Vm,Gt];omega) (show _=uA (Go.Sort.swp g (j) (j-1)) from Vl _ _ _) ?_);refine Zk [] ?_;refine ZD (ZY 2 (Zv (Za ef ef) (ZY 2 ?_)));exact ZX (K-1) (⟨j+1,swp g j (j-1),Qb,Qb,Qb,by rw[E3,w],H.symm.trans C,rfl,rfl⟩) Qb
        ·have x:shiftUp ltInt b j g=g:=shiftUp_stop (fun h=>Qb);refine Zy ?_;first|exact S.meet ⟨i2,g,Qb,Qb,w,by rw[←(x.symm.trans C).trans A.symm]at r;exact r,rfl,rfl⟩ ⟨rfl,rfl,rfl,rfl,rfl,trivial⟩ Sub.Qs|exact S.meet ⟨i2,f,Qb,Qb,p,r,rfl,rfl⟩ ⟨rfl,rfl,rfl,rfl,rfl,trivial⟩ Sub.Qs
       ·have A:fixUp ltInt b i2 f=f:=Qe Qb;rw[A]at r;refine Zy ?_;first|exact S.meet ⟨i2,g,Qb,Qb,w,by rw[←(x.symm.trans C).trans A.symm]at r;exact r,rfl,rfl⟩ ⟨rfl,rfl,rfl,rfl,rfl,trivial⟩ Sub.Qs|exact S.meet ⟨i2,f,Qb,Qb,p,r,rfl,rfl⟩ ⟨rfl,rfl,rfl,rfl,rfl,trivial⟩ Sub.Qs
  ·rintro c l ⟨i2,g,P,O,w,Q,rfl,rfl⟩;refine ZY 2 (Zv (Za ef ef) (ZY 2 ?_));exact ZX (q-1) (⟨k+1,i2,g,Qb,Qb,Qb,Qb,w,Q,rfl,rfl⟩) Qb
 ·rw[show 5-k=0 by omega]at u;have u:(e,false)=partialInsertionSort ltInt d a b:=u;refine ZY 6 ?_;exact Zf ef Zq (⟨by rw[←u];first|done|rfl,by rw[←u]⟩)
theorem Qqb(s:SV)(d:Array Int)(a b D:Nat)(af:a≤D)(a9:D<b)(hb:b≤d.size)(C7:d.size≤65535)(Jq:s.n=d.size):Spec Tryz.prog 164 [s.v,.int .i64 (a:Int),.int .i64 (b:Int),.int .i64 (D:Int)] [own s 31 1 (uA d)] fun E v Θ=>v=.tuple #[.int .i64 ((partition ltInt d a b D).1:Nat),.bool (partition ltInt d a b D).2.1]∧Θ=own s 31 1 (uA (partition ltInt d a b D).2.2)::E:=by
 refine Zbd Tryz.func164 rfl Tryz.ntmps164 fun w0 E=>Zsh ?_;refine S.Q7 s Qb fun sb so c _ _ _=>?_;obtain⟨e,he⟩:∃e,e=swp d a D:=⟨_,rfl⟩;have a5:e.size=d.size:=by rw[he,E3]
 obtain⟨p,N⟩:∃p:Array Int→Int→Bool,p=fun f x=>ltInt x f[a]! := ⟨_,rfl⟩;obtain⟨q,M⟩:∃q:Array Int→Int→Bool,q=fun f x=>!ltInt x f[a]! := ⟨_,rfl⟩;have T:∀f x,q f x=!p f x:=fun f x=>by rw[N,M]
 have R:∀f x,ltInt x f[a]! = true→p f x=true:=fun f x h=>by rw[N];exact h
 have U:∀f x,p f x=true→ltInt x f[a]! = true:=fun f x h=>by rw[N]at h;exact h
 have P:∀f x,(!ltInt x f[a]!)=true→q f x=true:=fun f x h=>by rw[M];exact h
 have Q:∀f x,q f x=true→(!ltInt x f[a]!)=true:=fun f x h=>by rw[M]at h;exact h
 have t:partition ltInt d a b D=if scanUp (p e) e (b-1) (a+1) > scanDown (q e) e (scanUp (p e) e (b-1) (a+1)) (b-1) then (scanDown (q e) e (scanUp (p e) e (b-1) (a+1)) (b-1),true,swp e (scanDown (q e) e (scanUp (p e) e (b-1) (a+1)) (b-1)) a) else
   ((partLoop ltInt a (scanUp (p e) e (b-1) (a+1)+1) (scanDown (q e) e (scanUp (p e) e (b-1) (a+1)) (b-1)-1) (swp e (scanUp (p e) e (b-1) (a+1)) (scanDown (q e) e (scanUp (p e) e (b-1) (a+1)) (b-1)))).1,false,
    swp (partLoop ltInt a (scanUp (p e) e (b-1) (a+1)+1) (scanDown (q e) e (scanUp (p e) e (b-1) (a+1)) (b-1)-1) (swp e (scanUp (p e) e (b-1) (a+1)) (scanDown (q e) e (scanUp (p e) e (b-1) (a+1)) (b-1)))).2 (partLoop ltInt a (scanUp (p e) e (b-1) (a+1)+1) (scanDown (q e) e (scanUp (p e) e (b-1) (a+1)) (b-1)-1) (swp e (scanUp (p e) e (b-1) (a+1)) (scanDown (q e) e (scanUp (p e) e (b-1) (a+1)) (b-1)))).1 a):=by
  rw[N,M,he];rfl
 have a0:∀i j f,partLoop ltInt a i j f=if scanUp (p f) f j i > scanDown (q f) f (scanUp (p f) f j i) j then (scanDown (q f) f (scanUp (p f) f j i) j,f) else partLoop ltInt a (scanUp (p f) f j i+1) (scanDown (q f) f (scanUp (p f) f j i) j-1) (swp f (scanUp (p f) f j i) (scanDown (q f) f (scanUp (p f) f j i) j)):=fun i j f=>by
  rw[N,M];exact partLoop_eq ltInt a i j f
 clear N M
 refine ZY 6 ?_;refine Zd ([own s 31 1 (uA d)]) [13] [0,1] (ZY 2 ?_);refine ZP 2 [] ef (Y8 rfl) ef ?_;refine ZP 3 (Zra 4 9) ef (Y8 rfl) ef (ZY 2 ?_);refine Zw ef (Zx (D) ef (c) ef Qb) ?_;refine Zw ef (Zo (s) (D) ef (c) (Yx Qb)) (ZY 2 ?_);refine Zw ef (Zx (a) ef (c) ef Qb) ?_;refine Zw ef (Zo (s) (a) ef (c) (Yx Qb)) ?_;refine Zw ef (Zx (a) ef (c) ef Qb) ?_;refine Z1 (i:=13) ef ef ?_;refine(S.Xa (s) (a) Eo.h rfl rfl rfl c (by first|rfl|exact Xr _ _ _|omega) (by rw[Vm];omega) (Vl _ _ _) ?_);refine ZL ([]) [14] ?_;refine Zw ef (Zx (D) ef (c) ef Qb) ?_;refine Z1 (i:=15) ef ef ?_;refine(S.Xa (s) (D) Eo.h rfl rfl rfl c (by first|rfl|exact Xr _ _ _|omega) (by rw[Vm,Gt];omega) (show _=uA (Go.Sort.swp d (a) (D)) from Vl _ _ _) ?_);refine Zk [] ?_;refine ZD (ZY 2 ?_);rw[←he];refine Zy (Zv (Za ef ef) (Zy (Zv (Zm ef ef) (ZY 4 ?_))))
 refine Zc (fun g k=>∃i1:Nat,i1=scanUp (p e) e (b-1) (a+1)∧a<i1∧i1≤b∧g=[(0,s.v),(1,.int .i64 (a:Int)),(10,.int .i64 (i1:Int)),(11,.int .i64 ((b:Int)-1))]∧k=own s 31 1 (uA e)::E) ?_ ?_
 ·refine Zy ?_;refine Zl (fun r g k=>∃n:Nat,r=b-n∧a<n∧n≤b∧scanUp (p e) e (b-1) n=scanUp (p e) e (b-1) (a+1)∧g=[(0,s.v),(1,.int .i64 (a:Int)),(10,.int .i64 (n:Int)),(11,.int .i64 ((b:Int)-1))]∧k=own s 31 1 (uA e)::E) (m:=_) (⟨a+1,rfl,Qb,Qb,rfl,rfl,rfl⟩) ?_;rintro r g k ⟨n,hr,a6,ae,o,rfl,rfl⟩;refine ZY 2 ?_;refine Zd ([own s 31 1 (uA e)]) [] (Zra 0 4) (ZY 4 ?_)
  refine Zb 33 ef (fun G=>?_) (fun G=>?_)
  ·refine Zr (Zra 4 8) (ZY 2 ?_);refine Zwg ef ef ef ef (Zx (n) ef (c) ef Qb) ?_;refine Zwg ef ef ef ef (Zo (s) (n) ef (c) (Yx Qb)) (ZY 2 ?_);refine Zwg ef ef ef ef (Zx (a) ef (c) ef Qb) ?_;refine Zwg ef ef ef ef (Zo (s) (a) ef (c) (Yx Qb)) ?_;refine Z1g (i:=12) ef ef ef ef ef (rfl) ?_;refine  (Zcp Ze (H2 (e[n]!) (e[a]!)) ?_);refine Zk [13] (Zy ?_);refine ZD ?_
   refine Zi ef (fun Y=>?_) (fun Y=>?_)
   ·have J:scanUp (p e) e (b-1) n=scanUp (p e) e (b-1) (n+1):=Lf Qb (R _ _ Y);refine ZY 4 (Zv (Za ef ef) (ZY 2 ?_));exact ZX (r-1) (⟨n+1,Qb,Qb,Qb,J.symm.trans o,rfl,rfl⟩) Qb
   ·have A:scanUp (p e) e (b-1) n=n:=Gw (fun h=>by rw[U _ _ h.2]at Y;cases Y);refine Zy ?_;exact ZM ⟨n,A.symm.trans o,Qb,Qb,rfl,rfl⟩
  ·have A:scanUp (p e) e (b-1) n=n:=Gw (fun h=>G Qb);refine Zr (Zra 4 10) (ZY 8 (ZY 2 ?_));refine ZD (ZY 2 ?_);exact ZM ⟨n,A.symm.trans o,Qb,Qb,rfl,rfl⟩
 ·rintro g k ⟨i1,H,ai,ah,rfl,rfl⟩;refine Zy ?_
  refine Zc (fun g k=>∃(u:Nat) (z1:Int),z1=u∧u=scanDown (q e) e i1 (b-1)∧g=[(0,s.v),(1,.int .i64 (a:Int)),(10,.int .i64 (i1:Int)),(11,.int .i64 z1)]∧k=own s 31 1 (uA e)::E) ?_ ?_
  ·refine Zy ?_;refine Zl (fun r g k=>∃(l:Nat) (z:Int),r=l∧z=l∧l < b∧scanDown (q e) e i1 l=scanDown (q e) e i1 (b-1)∧g=[(0,s.v),(1,.int .i64 (a:Int)),(10,.int .i64 (i1:Int)),(11,.int .i64 z)]∧k=own s 31 1 (uA e)::E) (m:=_) (⟨b-1,(b:Int)-1,rfl,Qb,Qb,rfl,rfl,rfl⟩) ?_;rintro r g k ⟨l,z,hr,O,a1,o,rfl,rfl⟩;refine ZY 2 ?_;refine Zd ([own s 31 1 (uA e)]) [] (Zra 0 4) (ZY 4 ?_)
   refine Zb 49 ef (fun F=>?_) (fun F=>?_)
   ·refine Zr (Zra 4 8) (ZY 2 ?_);refine Zwg ef ef ef ef (Zx (l) ef (c) ef Qb (O)) ?_;refine Zwg ef ef ef ef (Zo (s) (l) ef (c) (Yx Qb)) (ZY 2 ?_);refine Zwg ef ef ef ef (Zx (a) ef (c) ef Qb) ?_;refine Zwg ef ef ef ef (Zo (s) (a) ef (c) (Yx Qb)) ?_;refine Z1g (i:=12) ef ef ef ef ef (rfl) ?_;refine  (Zcp Ze (H2 (e[l]!) (e[a]!)) ?_);refine Zk [13,14] (ZY 2 ?_);refine ZD ?_
    refine Zi ef (fun X=>?_) (fun X=>?_)
    ·have J:scanDown (q e) e i1 l=scanDown (q e) e i1 (l - 1):=B6 Qb Qb (P _ _ X);refine ZY 4 (Zv (Zm ef ef) (ZY 2 ?_));exact ZX (l - 1) (⟨l - 1,z-1,rfl,Qb,Qb,J.symm.trans o,rfl,rfl⟩) Qb
    ·have A:scanDown (q e) e i1 l=l:=J5 (fun h=>by rw[Q _ _ h.2]at X;cases X);refine Zy ?_;exact ZM ⟨l,z,O,A.symm.trans o,rfl,rfl⟩
   ·have A:scanDown (q e) e i1 l=l:=J5 (fun h=>F Qb);refine Zr (Zra 4 11) (ZY 8 (ZY 3 ?_));refine ZD (ZY 2 ?_);exact ZM ⟨l,z,O,A.symm.trans o,rfl,rfl⟩
  ·rintro g k ⟨u,z1,rfl,Nv,rfl,rfl⟩;obtain⟨f1,f2,f3,f4,f5⟩:=Se (p:=p e) (q:=q e) (e:=e) (i:=a+1) (j:=b-1) (T e) Qb Qb;rw[←H,←Nv]at f5 f4;rw[←H]at f1 f2;rw[←H,←Nv]at f3;rw[←H,←Nv]at t;refine ZY 7 ?_
   refine Zj ef (fun h3=>?_) (fun h3=>?_)
   ·rw[Qh Qb]at t;refine Zy ?_;refine Zd ([own s 31 1 (uA e)]) [13] [0,1] (ZY 2 ?_);refine ZP 2 [] ef (Y8 rfl) ef ?_;refine ZP 3 (Zra 4 9) ef (Y8 rfl) ef (ZY 2 ?_);refine Zw ef (Zx (a) ef (c) ef Qb) ?_;refine Zw ef (Zo (s) (a) ef (c) (Yx Qb)) (ZY 2 ?_);refine Zw ef (Zx (u) ef (c) ef Qb) ?_;refine Zw ef (Zo (s) (u) ef (c) (Yx Qb)) ?_;refine Zw ef (Zx (u) ef (c) ef Qb) ?_;refine Z1 (i:=13) ef ef ?_;refine(S.Xa (s) (u) Eo.h rfl rfl rfl c (by first|rfl|exact Xr _ _ _|omega) (by rw[Vm];omega) (Vl _ _ _) ?_);refine ZL ([]) [14] ?_;refine Zw ef (Zx (a) ef (c) ef Qb) ?_;refine Z1 (i:=15) ef ef ?_;refine(S.Xa (s) (a) Eo.h rfl rfl rfl c (by first|rfl|exact Xr _ _ _|omega) (by rw[Vm,Gt];omega) (show _=uA (Go.Sort.swp e (u) (a)) from Vl _ _ _) ?_);refine Zk [] ?_;refine ZD (ZY 7 ?_);exact Zf ef Zq (⟨by rw[t];first|done|rfl,by rw[t]⟩)
   ·rw[Qe Qb]at t;have f6:=f5 Qb;refine ZY 2 ?_;refine Zd ([own s 31 1 (uA e)]) [13] [0,1] (ZY 2 ?_);refine ZP 2 [] ef (Y8 rfl) ef ?_;refine ZP 3 (Zra 4 9) ef (Y8 rfl) ef (ZY 2 ?_);refine Zw ef (Zx (u) ef (c) ef Qb) ?_;refine Zw ef (Zo (s) (u) ef (c) (Yx Qb)) (ZY 2 ?_);refine Zw ef (Zx (i1) ef (c) ef Qb) ?_;refine Zw ef (Zo (s) (i1) ef (c) (Yx Qb)) ?_;refine Zw ef (Zx (i1) ef (c) ef Qb) ?_;refine Z1 (i:=13) ef ef ?_;refine(S.Xa (s) (i1) Eo.h rfl rfl rfl c (by first|rfl|exact Xr _ _ _|omega) (by rw[Vm];omega) (Vl _ _ _) ?_);refine ZL ([]) [14] ?_;refine Zw ef (Zx (u) ef (c) ef Qb) ?_;refine Z1 (i:=15) ef ef ?_;refine(S.Xa (s) (u) Eo.h rfl rfl rfl c (by first|rfl|exact Xr _ _ _|omega) (by rw[Vm,Gt];omega) (show _=uA (Go.Sort.swp e (i1) (u)) from Vl _ _ _) ?_);refine Zk [] ?_;refine ZD (ZY 3 (Zv (Za ef ef) (ZY 4 ?_)));obtain⟨L,hL⟩:∃L,L=partLoop ltInt a (i1+1) (u-1) (swp e i1 u):=⟨_,rfl⟩;rw[←hL]at t;refine Zy (Zv (Zm ef ef) (ZY 4 ?_));refine Zl (fun r g k=>∃(i j:Nat) (z:Int) (f:Array Int),r=j+1-i∧z=j∧a<i∧i≤j+1∧j<b∧f.size=d.size∧partLoop ltInt a i j f=L∧g=[(0,s.v),(1,.int .i64 (a:Int)),(10,.int .i64 (i:Int)),(11,.int .i64 z)]∧k=own s 31 1 (uA f)::E) (m:=_) (⟨i1+1,u-1,(u:Int)-1,swp e i1 u,rfl,Qb,Qb,Qb,Qb,by rw[E3,a5],hL.symm,rfl,rfl⟩) ?_;rintro r3 g k ⟨i,j,z,f,a8,O,a6,ab,a1,a4,y,rfl,rfl⟩;obtain⟨k1,k2,k3,k4,k5⟩:=Se (p:=p f) (q:=q f) (e:=f) (i:=i) (j:=j) (T f) Qb Qb;rw[a0]at y;refine ZY 2 ?_
    refine Zc (fun g k=>∃i2:Nat,i2=scanUp (p f) f j i∧g=[(0,s.v),(1,.int .i64 (a:Int)),(10,.int .i64 (i2:Int)),(11,.int .i64 z)]∧k=own s 31 1 (uA f)::E) ?_ ?_
    ·refine Zy ?_;refine Zl (fun r g k=>∃n:Nat,r=j+1-n∧i≤n∧n≤j+1∧scanUp (p f) f j n=scanUp (p f) f j i∧g=[(0,s.v),(1,.int .i64 (a:Int)),(10,.int .i64 (n:Int)),(11,.int .i64 z)]∧k=own s 31 1 (uA f)::E) (m:=_) (⟨i,rfl,Qb,Qb,rfl,rfl,rfl⟩) ?_;rintro r g k ⟨n,hr,ad,a7,o,rfl,rfl⟩;refine ZY 2 ?_;refine Zd ([own s 31 1 (uA f)]) [] (Zra 0 4) (ZY 4 ?_)
     refine Zb 102 ef (fun C=>?_) (fun C=>?_)
     ·refine Zr (Zra 4 8) (ZY 2 ?_);refine Zwg ef ef ef ef (Zx (n) ef (c) ef Qb) ?_;refine Zwg ef ef ef ef (Zo (s) (n) ef (c) (Yx Qb)) (ZY 2 ?_);refine Zwg ef ef ef ef (Zx (a) ef (c) ef Qb) ?_;refine Zwg ef ef ef ef (Zo (s) (a) ef (c) (Yx Qb)) ?_;refine Z1g (i:=12) ef ef ef ef ef (rfl) ?_;refine  (Zcp Ze (H2 (f[n]!) (f[a]!)) ?_);refine Zk [13] (Zy ?_);refine ZD ?_
      refine Zi ef (fun W=>?_) (fun W=>?_)
      ·have J:scanUp (p f) f j n=scanUp (p f) f j (n+1):=Lf Qb (R _ _ W);refine ZY 4 (Zv (Za ef ef) (ZY 2 ?_));exact ZX (r-1) (⟨n+1,Qb,Qb,Qb,J.symm.trans o,rfl,rfl⟩) Qb
      ·have A:scanUp (p f) f j n=n:=Gw (fun h=>by rw[U _ _ h.2]at W;cases W);refine Zy ?_;exact ZM ⟨n,A.symm.trans o,rfl,rfl⟩
     ·have A:scanUp (p f) f j n=n:=Gw (fun h=>C Qb);refine Zr (Zra 4 10) (ZY 8 (ZY 2 ?_));refine ZD (ZY 2 ?_);exact ZM ⟨n,A.symm.trans o,rfl,rfl⟩
    ·rintro g k ⟨i2,a3,rfl,rfl⟩;rw[←a3]at k1 k2 k3 k4 k5 y;refine Zy ?_
     refine Zc (fun g k=>∃(w:Nat) (Z:Int),Z=w∧w=scanDown (q f) f i2 j∧g=[(0,s.v),(1,.int .i64 (a:Int)),(10,.int .i64 (i2:Int)),(11,.int .i64 Z)]∧k=own s 31 1 (uA f)::E) ?_ ?_
     ·refine Zy ?_;refine Zl (fun r g k=>∃(l:Nat) (K:Int),r=l∧K=l∧l≤j∧scanDown (q f) f i2 l=scanDown (q f) f i2 j∧g=[(0,s.v),(1,.int .i64 (a:Int)),(10,.int .i64 (i2:Int)),(11,.int .i64 K)]∧k=own s 31 1 (uA f)::E) (m:=_) (⟨j,z,rfl,O,Qb,rfl,rfl,rfl⟩) ?_;rintro r g k ⟨l,K,hr,I,aa,o,rfl,rfl⟩;refine ZY 2 ?_;refine Zd ([own s 31 1 (uA f)]) [] (Zra 0 4) (ZY 4 ?_)
      refine Zb 118 ef (fun B=>?_) (fun B=>?_)
      ·refine Zr (Zra 4 8) (ZY 2 ?_);refine Zwg ef ef ef ef (Zx (l) ef (c) ef Qb (I)) ?_;refine Zwg ef ef ef ef (Zo (s) (l) ef (c) (Yx Qb)) (ZY 2 ?_);refine Zwg ef ef ef ef (Zx (a) ef (c) ef Qb) ?_;refine Zwg ef ef ef ef (Zo (s) (a) ef (c) (Yx Qb)) ?_;refine Z1g (i:=12) ef ef ef ef ef (rfl) ?_;refine  (Zcp Ze (H2 (f[l]!) (f[a]!)) ?_);refine Zk [13,14] (ZY 2 ?_);refine ZD ?_
       refine Zi ef (fun V=>?_) (fun V=>?_)
       ·have J:scanDown (q f) f i2 l=scanDown (q f) f i2 (l - 1):=B6 Qb Qb (P _ _ V);refine ZY 4 (Zv (Zm ef ef) (ZY 2 ?_));exact ZX (l - 1) (⟨l - 1,K - 1,rfl,Qb,Qb,J.symm.trans o,rfl,rfl⟩) Qb
       ·have A:scanDown (q f) f i2 l=l:=J5 (fun h=>by rw[Q _ _ h.2]at V;cases V);refine Zy ?_;exact ZM ⟨l,K,I,A.symm.trans o,rfl,rfl⟩
      ·have A:scanDown (q f) f i2 l=l:=J5 (fun h=>B Qb);refine Zr (Zra 4 11) (ZY 8 (ZY 3 ?_));refine ZD (ZY 2 ?_);exact ZM ⟨l,K,I,A.symm.trans o,rfl,rfl⟩
     ·rintro g k ⟨w,Z,rfl,a2,rfl,rfl⟩;rw[←a2]at k3 k4 k5 y;refine ZY 7 ?_
      refine Zj ef (fun h6=>?_) (fun h6=>?_)
      ·rw[Qh Qb]at y;rw[←y]at t;refine ZY 2 ?_;refine Zd ([own s 31 1 (uA f)]) [13] [0,1] (ZY 2 ?_);refine ZP 2 [] ef (Y8 rfl) ef ?_;refine ZP 3 (Zra 4 9) ef (Y8 rfl) ef (ZY 2 ?_);refine Zw ef (Zx (a) ef (c) ef Qb) ?_;refine Zw ef (Zo (s) (a) ef (c) (Yx Qb)) (ZY 2 ?_);refine Zw ef (Zx (w) ef (c) ef Qb) ?_;refine Zw ef (Zo (s) (w) ef (c) (Yx Qb)) ?_;refine Zw ef (Zx (w) ef (c) ef Qb) ?_;refine Z1 (i:=13) ef ef ?_;refine(S.Xa (s) (w) Eo.h rfl rfl rfl c (by first|rfl|exact Xr _ _ _|omega) (by rw[Vm];omega) (Vl _ _ _) ?_);refine ZL ([]) [14] ?_;refine Zw ef (Zx (a) ef (c) ef Qb) ?_;refine Z1 (i:=15) ef ef ?_;refine(S.Xa (s) (a) Eo.h rfl rfl rfl c (by first|rfl|exact Xr _ _ _|omega) (by rw[Vm,Gt];omega) (show _=uA (Go.Sort.swp f (w) (a)) from Vl _ _ _) ?_);refine Zk [] ?_;refine ZD (ZY 7 ?_);exact Zf ef Zq (⟨by rw[t];first|done|rfl,by rw[t]⟩)
      ·rw[Qe Qb]at y;have k6:=k5 Qb;refine ZY 2 ?_;refine Zd ([own s 31 1 (uA f)]) [13] [0,1] (ZY 2 ?_);refine ZP 2 [] ef (Y8 rfl) ef ?_;refine ZP 3 (Zra 4 9) ef (Y8 rfl) ef (ZY 2 ?_);refine Zw ef (Zx (w) ef (c) ef Qb) ?_;refine Zw ef (Zo (s) (w) ef (c) (Yx Qb)) (ZY 2 ?_);refine Zw ef (Zx (i2) ef (c) ef Qb) ?_;refine Zw ef (Zo (s) (i2) ef (c) (Yx Qb)) ?_;refine Zw ef (Zx (i2) ef (c) ef Qb) ?_;refine Z1 (i:=13) ef ef ?_;refine(S.Xa (s) (i2) Eo.h rfl rfl rfl c (by first|rfl|exact Xr _ _ _|omega) (by rw[Vm];omega) (Vl _ _ _) ?_);refine ZL ([]) [14] ?_;refine Zw ef (Zx (w) ef (c) ef Qb) ?_;refine Z1 (i:=15) ef ef ?_;refine(S.Xa (s) (w) Eo.h rfl rfl rfl c (by first|rfl|exact Xr _ _ _|omega) (by rw[Vm,Gt];omega) (show _=uA (Go.Sort.swp f (i2) (w)) from Vl _ _ _) ?_);refine Zk [] ?_;refine ZD (ZY 3 (Zv (Za ef ef) (ZY 4 (Zv (Zm ef ef) (ZY 2 ?_)))));exact ZX (w-1+1-(i2+1)) (⟨i2+1,w-1,(w:Int)-1,swp f i2 w,rfl,Qb,Qb,Qb,Qb,by rw[E3,a4],y,rfl,rfl⟩) Qb
theorem Qb8(s:SV)(d:Array Int)(a b u:Nat)(a6:a≤u)(a1:u<b)(hb:b≤d.size)(C7:d.size≤65535)(Jq:s.n=d.size):Spec Tryz.prog 163 [s.v,.int .i64 (a:Int),.int .i64 (b:Int),.int .i64 (u:Int)] [own s 31 1 (uA d)] fun B v Θ=>v=.int .i64 ((partitionEqual ltInt d a b u).1:Nat)∧Θ=own s 31 1 (uA (partitionEqual ltInt d a b u).2)::B:=by
 refine Zbd Tryz.func163 rfl Tryz.ntmps163 fun w0 B=>Zsh ?_;refine S.Q7 s Qb fun sb so k _ _ _=>?_;obtain⟨p,G⟩:∃p:Array Int→Int→Bool,p=fun f x=>!ltInt f[a]! x:=⟨_,rfl⟩;obtain⟨q,F⟩:∃q:Array Int→Int→Bool,q=fun f x=>ltInt f[a]! x:=⟨_,rfl⟩;have O:∀f x,q f x=!p f x:=fun f x=>by rw[G,F];simp
 have N:∀f x,(!ltInt f[a]! x)=true→p f x=true:=fun f x h=>by rw[G];exact h
 have P:∀f x,p f x=true→(!ltInt f[a]! x)=true:=fun f x h=>by rw[G]at h;exact h
 have K:∀f x,ltInt f[a]! x=true→q f x=true:=fun f x h=>by rw[F];exact h
 have M:∀f x,q f x=true→ltInt f[a]! x=true:=fun f x h=>by rw[F]at h;exact h
 have Q:∀i j f,partEqLoop ltInt a i j f=if scanUp (p f) f j i > scanDown (q f) f (scanUp (p f) f j i) j then (scanUp (p f) f j i,f) else partEqLoop ltInt a (scanUp (p f) f j i+1) (scanDown (q f) f (scanUp (p f) f j i) j-1) (swp f (scanUp (p f) f j i) (scanDown (q f) f (scanUp (p f) f j i) j)):=fun i j f=>by
  rw[G,F];exact partEqLoop_eq ltInt a i j f
 obtain⟨L,hL⟩:∃L,L=partitionEqual ltInt d a b u:=⟨_,rfl⟩;have V:partEqLoop ltInt a (a+1) (b-1) (swp d a u)=L:=hL.symm;rw[←hL];clear G F
 refine ZY 5 ?_;refine Zd ([own s 31 1 (uA d)]) [13] [0,1] (ZY 2 ?_);refine ZP 2 [] ef (Y8 rfl) ef ?_;refine ZP 3 (Zra 4 9) ef (Y8 rfl) ef (ZY 2 ?_);refine Zw ef (Zx (u) ef (k) ef Qb) ?_;refine Zw ef (Zo (s) (u) ef (k) (Yx Qb)) (ZY 2 ?_);refine Zw ef (Zx (a) ef (k) ef Qb) ?_;refine Zw ef (Zo (s) (a) ef (k) (Yx Qb)) ?_;refine Zw ef (Zx (a) ef (k) ef Qb) ?_;refine Z1 (i:=13) ef ef ?_;refine(S.Xa (s) (a) Eo.h rfl rfl rfl k (by first|rfl|exact Xr _ _ _|omega) (by rw[Vm];omega) (Vl _ _ _) ?_);refine ZL ([]) [14] ?_;refine Zw ef (Zx (u) ef (k) ef Qb) ?_;refine Z1 (i:=15) ef ef ?_;refine(S.Xa (s) (u) Eo.h rfl rfl rfl k (by first|rfl|exact Xr _ _ _|omega) (by rw[Vm,Gt];omega) (show _=uA (Go.Sort.swp d (a) (u)) from Vl _ _ _) ?_);refine Zk [] ?_;refine ZD (ZY 3 (Zv (Za ef ef) (Zy (Zv (Zm ef ef) (ZY 5 ?_)))));refine Zl (fun r c g=>∃(i j:Nat) (z:Int) (f:Array Int),r=j+1-i∧z=j∧a<i∧i≤j+1∧j<b∧f.size=d.size∧partEqLoop ltInt a i j f=L∧c=[(0,s.v),(1,.int .i64 (a:Int)),(9,.int .i64 (i:Int)),(10,.int .i64 z)]∧g=own s 31 1 (uA f)::B) (m:=_) (⟨a+1,b-1,(b:Int)-1,swp d a u,rfl,Qb,Qb,Qb,Qb,by rw[E3],V,rfl,rfl⟩) ?_;rintro r3 c g ⟨i,j,z,f,a0,hz,a7,a4,a3,U,o,rfl,rfl⟩;obtain⟨k1,k2,Y,X,k5⟩:=Se (p:=p f) (q:=q f) (e:=f) (i:=i) (j:=j) (O f) Qb Qb;rw[Q]at o;refine ZY 2 ?_
 refine Zc (fun c g=>∃i2:Nat,i2=scanUp (p f) f j i∧c=[(0,s.v),(1,.int .i64 (a:Int)),(9,.int .i64 (i2:Int)),(10,.int .i64 z)]∧g=own s 31 1 (uA f)::B) ?_ ?_
 ·refine Zy ?_;refine Zl (fun r c g=>∃n:Nat,r=j+1-n∧i≤n∧n≤j+1∧scanUp (p f) f j n=scanUp (p f) f j i∧c=[(0,s.v),(1,.int .i64 (a:Int)),(9,.int .i64 (n:Int)),(10,.int .i64 z)]∧g=own s 31 1 (uA f)::B) (m:=_) (⟨i,rfl,Qb,Qb,rfl,rfl,rfl⟩) ?_;rintro r c g ⟨n,hr,a5,Z,t,rfl,rfl⟩;refine ZY 2 ?_;refine Zd ([own s 31 1 (uA f)]) [] (Zra 0 4) (ZY 4 ?_)
  refine Zb 32 ef (fun A=>?_) (fun A=>?_)
  ·refine Zr (Zra 4 8) (ZY 2 ?_);refine Zwg ef ef ef ef (Zx (a) ef (k) ef Qb) ?_;refine Zwg ef ef ef ef (Zo (s) (a) ef (k) (Yx Qb)) (ZY 2 ?_);refine Zwg ef ef ef ef (Zx (n) ef (k) ef Qb) ?_;refine Zwg ef ef ef ef (Zo (s) (n) ef (k) (Yx Qb)) ?_;refine Z1g (i:=12) ef ef ef ef ef (rfl) ?_;refine  (Zcp Ze (H2 (f[a]!) (f[n]!)) ?_);refine Zk [13,14] (ZY 2 ?_);refine ZD ?_
   refine Zi ef (fun I=>?_) (fun I=>?_)
   ·have W:scanUp (p f) f j n=scanUp (p f) f j (n+1):=Lf Qb (N _ _ I);refine ZY 4 (Zv (Za ef ef) (ZY 2 ?_));exact ZX (r-1) (⟨n+1,Qb,Qb,Qb,W.symm.trans t,rfl,rfl⟩) Qb
   ·have D:scanUp (p f) f j n=n:=Gw (fun h=>by rw[P _ _ h.2]at I;cases I);refine Zy ?_;exact ZM ⟨n,D.symm.trans t,rfl,rfl⟩
  ·have D:scanUp (p f) f j n=n:=Gw (fun h=>A Qb);refine Zr (Zra 4 11) (ZY 8 (ZY 3 ?_));refine ZD (ZY 2 ?_);exact ZM ⟨n,D.symm.trans t,rfl,rfl⟩
 ·rintro c g ⟨i2,T,rfl,rfl⟩;rw[←T]at k1 k2 Y X k5 o;refine Zy ?_
  refine Zc (fun c g=>∃(w:Nat) (J:Int),J=w∧w=scanDown (q f) f i2 j∧c=[(0,s.v),(1,.int .i64 (a:Int)),(9,.int .i64 (i2:Int)),(10,.int .i64 J)]∧g=own s 31 1 (uA f)::B) ?_ ?_
  ·refine Zy ?_;refine Zl (fun r c g=>∃(l:Nat) (E:Int),r=l∧E=l∧l≤j∧scanDown (q f) f i2 l=scanDown (q f) f i2 j∧c=[(0,s.v),(1,.int .i64 (a:Int)),(9,.int .i64 (i2:Int)),(10,.int .i64 E)]∧g=own s 31 1 (uA f)::B) (m:=_) (⟨j,z,rfl,hz,Qb,rfl,rfl,rfl⟩) ?_;rintro r c g ⟨l,E,hr,C,a2,t,rfl,rfl⟩;refine ZY 2 ?_;refine Zd ([own s 31 1 (uA f)]) [] (Zra 0 4) (ZY 4 ?_)
   refine Zb 49 ef (fun y=>?_) (fun y=>?_)
   ·refine Zr (Zra 4 8) (ZY 2 ?_);refine Zwg ef ef ef ef (Zx (a) ef (k) ef Qb) ?_;refine Zwg ef ef ef ef (Zo (s) (a) ef (k) (Yx Qb)) (ZY 2 ?_);refine Zwg ef ef ef ef (Zx (l) ef (k) ef Qb (C)) ?_;refine Zwg ef ef ef ef (Zo (s) (l) ef (k) (Yx Qb)) ?_;refine Z1g (i:=12) ef ef ef ef ef (rfl) ?_;refine  (Zcp Ze (H2 (f[a]!) (f[l]!)) ?_);refine Zk [13] (Zy ?_);refine ZD ?_
    refine Zi ef (fun H=>?_) (fun H=>?_)
    ·have W:scanDown (q f) f i2 l=scanDown (q f) f i2 (l - 1):=B6 Qb Qb (K _ _ H);refine ZY 4 (Zv (Zm ef ef) (ZY 2 ?_));exact ZX (l - 1) (⟨l - 1,E - 1,rfl,Qb,Qb,W.symm.trans t,rfl,rfl⟩) Qb
    ·have D:scanDown (q f) f i2 l=l:=J5 (fun h=>by rw[M _ _ h.2]at H;cases H);refine Zy ?_;exact ZM ⟨l,E,C,D.symm.trans t,rfl,rfl⟩
   ·have D:scanDown (q f) f i2 l=l:=J5 (fun h=>y Qb);refine Zr (Zra 4 10) (ZY 8 (ZY 2 ?_));refine ZD (ZY 2 ?_);exact ZM ⟨l,E,C,D.symm.trans t,rfl,rfl⟩
  ·rintro c g ⟨w,J,rfl,R,rfl,rfl⟩;rw[←R]at Y X k5 o;refine ZY 7 ?_
   refine Zj ef (fun h3=>?_) (fun h3=>?_)
   ·rw[Qh Qb]at o;refine ZY 7 ?_;exact Zf ef Zq (⟨by rw[←o];first|done|rfl,by rw[←o]⟩)
   ·rw[Qe Qb]at o;have k6:=k5 Qb;refine ZY 2 ?_;refine Zd ([own s 31 1 (uA f)]) [13] [0,1] (ZY 2 ?_);refine ZP 2 [] ef (Y8 rfl) ef ?_;refine ZP 3 (Zra 4 9) ef (Y8 rfl) ef (ZY 2 ?_);refine Zw ef (Zx (w) ef (k) ef Qb) ?_;refine Zw ef (Zo (s) (w) ef (k) (Yx Qb)) (ZY 2 ?_);refine Zw ef (Zx (i2) ef (k) ef Qb) ?_;refine Zw ef (Zo (s) (i2) ef (k) (Yx Qb)) ?_;refine Zw ef (Zx (i2) ef (k) ef Qb) ?_;refine Z1 (i:=13) ef ef ?_;refine(S.Xa (s) (i2) Eo.h rfl rfl rfl k (by first|rfl|exact Xr _ _ _|omega) (by rw[Vm];omega) (Vl _ _ _) ?_);refine ZL ([]) [14] ?_;refine Zw ef (Zx (w) ef (k) ef Qb) ?_;refine Z1 (i:=15) ef ef ?_;refine(S.Xa (s) (w) Eo.h rfl rfl rfl k (by first|rfl|exact Xr _ _ _|omega) (by rw[Vm,Gt];omega) (show _=uA (Go.Sort.swp f (i2) (w)) from Vl _ _ _) ?_);refine Zk [] ?_;refine ZD (ZY 3 (Zv (Za ef ef) (ZY 4 (Zv (Zm ef ef) (ZY 2 ?_)))));exact ZX (w-1+1-(i2+1)) (⟨i2+1,w-1,(w:Int)-1,swp f i2 w,rfl,Qb,Qb,Qb,Qb,by rw[E3,U],o,rfl,rfl⟩) Qb
theorem Zlb(s:SV)(N:Nat)(C7:N≤65535)(Jq:s.n=N):∀(n a b:Nat) (d:Array Int) (l:Int),n=b-a→a≤b→b≤d.size→d.size=N→0≤l∧l≤64→Below ltInt a b d→Spec Tryz.prog 137 [s.v,.int .i64 (a:Int),.int .i64 (b:Int),.int .i64 l] [own s 31 1 (uA d)] fun O _ M=>∃R,PermIn a b d R∧SortedIn ltInt a b R∧M=own s 31 1 (uA R)::O:=by
 intro n;induction n using Nat.strongRecOn with
 | _ n ih=>
 intro a b d l hn a3 hb aa hl a5;refine Zbd Tryz.func137 rfl Tryz.ntmps137 fun w0 O=>Zsh (ZY 8 (Zy ?_));refine Zl (fun q j k=>∃(c f:Nat) (l:Int) (G F:Bool) (e:Array Int),q=f - c∧c≤f∧a≤c∧f≤b∧(0≤l∧l≤64)∧e.size=d.size∧Below ltInt c f e∧(∀R,PermIn c f e R→SortedIn ltInt c f R→PermIn a b d R∧SortedIn ltInt a b R)∧j=[(0,s.v),(1,.int .i64 (c:Int)),(2,.int .i64 (f:Int)),(3,.int .i64 l),(8,.bool G),(9,.bool F)]∧k=own s 31 1 (uA e)::O) (m:=_) (⟨a,b,l,true,true,d,rfl,a3,Qb,Qb,hl,rfl,a5,fun R o g=>⟨o,g⟩,rfl,rfl⟩) ?_;rintro q j k ⟨c,f,l,G,F,e,hq,C,ad,ab,hl,a9,hB,A,rfl,rfl⟩;refine ZY 5 (Zv (Zm ef ef) (ZY 8 ?_))
 refine Zj ef (fun o=>?_) (fun o=>?_)
 ·obtain⟨p1,p2⟩:=insertionSort_holds swo_ltInt e c f C Qb;obtain⟨Y,X⟩:=A _ p1 p2;refine ZY 5 (Zp (Zc1 Ze (Q0v s e c f C Qb Qb Qb) ?_));rintro v M rfl;refine ZY 2 ?_;exact Zf ef Zq (⟨_,Y,X,rfl⟩)
 ·refine ZY 7 ?_
  refine Zj ef (fun g=>?_) (fun g=>?_)
  ·obtain⟨p1,p2⟩:=heapSort_holds swo_ltInt e c f C Qb;obtain⟨Y,X⟩:=A _ p1 p2;refine ZY 5 (Zp (Zc1 Ze (Qug s e c f Qb Qb Qb Qb) ?_));rintro v M rfl;refine ZY 2 ?_;exact Zf ef Zq (⟨_,Y,X,rfl⟩)
  ·refine ZY 7 ?_
   refine Zc (fun j k=>∃(t:Int) (e1:Array Int),(0≤t∧t≤64)∧PermIn c f e e1∧j=[(0,s.v),(1,.int .i64 (c:Int)),(2,.int .i64 (f:Int)),(3,.int .i64 t),(8,.bool G),(9,.bool F),(10,.int .i64 ((f:Int)-c))]∧k=own s 31 1 (uA e1)::O) ?_ ?_
   ·refine Zi ef (fun h3=>?_) (fun h3=>?_)
    ·refine ZY 5 (Zp (Zc1 Ze (Zd9 s e c f Qb Qb Qb Qb) ?_));rintro v M ⟨e1,y,rfl⟩;refine ZY 3 (Zv (Zm ef ef) (ZY 2 ?_));first|exact S.meet ⟨l-1,e1,Qb,y,rfl,rfl⟩ ⟨rfl,rfl,rfl,rfl,rfl,rfl,rfl,trivial⟩ Sub.Qs|exact S.meet ⟨l,e,hl,permIn_refl _ _ _,rfl,rfl⟩ ⟨rfl,rfl,rfl,rfl,rfl,rfl,rfl,trivial⟩ Sub.Qs
    ·refine Zy ?_;first|exact S.meet ⟨l-1,e1,Qb,y,rfl,rfl⟩ ⟨rfl,rfl,rfl,rfl,rfl,rfl,rfl,trivial⟩ Sub.Qs|exact S.meet ⟨l,e,hl,permIn_refl _ _ _,rfl,rfl⟩ ⟨rfl,rfl,rfl,rfl,rfl,rfl,rfl,trivial⟩ Sub.Qs
   ·rintro j k ⟨t,e1,E,y,rfl,rfl⟩;have a8:=y.1;refine ZY 5 (Zp (Zc1 Ze (Q73 s e1 c f Qb Qb Qb Qb) ?_));rintro v M ⟨u,h,hu,rfl,rfl⟩;refine ZY 8 (ZY 4 ?_)
    refine Zc (fun j k=>∃(w:Nat) (zu g:Int) (e2:Array Int),zu=w∧(c≤w∧w<f)∧PermIn c f e e2∧j=[(0,s.v),(1,.int .i64 (c:Int)),(2,.int .i64 (f:Int)),(3,.int .i64 t),(8,.bool G),(9,.bool F),(10,.int .i64 ((f:Int)-c)),(11,.int .i64 zu),(12,.int .i64 g)]∧k=own s 31 1 (uA e2)::O) ?_ ?_
    ·refine Zj ef (fun h4=>?_) (fun h4=>?_)
     ·refine ZY 5 (Zp (Zc1 Ze (Qzu s e1 c f Qb Qb Qb Qb) ?_));rintro v M ⟨e2,r,rfl⟩;refine ZY 4 (Zv (Zm ef ef) (ZY 2 (Zv (Zm ef ef) (Zv (Zm ef ef) (ZY 5 ?_)))));first|exact S.meet ⟨f - 1-(u-c),(f:Int)-1-((u:Int)-c),1,e2,Qb,Qb,permIn_trans _ _ _ _ _ y r,rfl,rfl⟩ ⟨rfl,rfl,rfl,rfl,rfl,rfl,rfl,rfl,rfl,trivial⟩ Sub.Qs|exact S.meet ⟨u,u,h,e1,rfl,hu,y,rfl,rfl⟩ ⟨rfl,rfl,rfl,rfl,rfl,rfl,rfl,rfl,rfl,trivial⟩ Sub.Qs
     ·refine Zy ?_;first|exact S.meet ⟨f - 1-(u-c),(f:Int)-1-((u:Int)-c),1,e2,Qb,Qb,permIn_trans _ _ _ _ _ y r,rfl,rfl⟩ ⟨rfl,rfl,rfl,rfl,rfl,rfl,rfl,rfl,rfl,trivial⟩ Sub.Qs|exact S.meet ⟨u,u,h,e1,rfl,hu,y,rfl,rfl⟩ ⟨rfl,rfl,rfl,rfl,rfl,rfl,rfl,rfl,rfl,trivial⟩ Sub.Qs
    ·rintro j k ⟨w,zu,g,e2,rfl,x,r,rfl,rfl⟩;have a7:=r.1;refine ZY 2 ?_
     refine Zc (fun j k=>∃V:Bool,j=[(0,s.v),(1,.int .i64 (c:Int)),(2,.int .i64 (f:Int)),(3,.int .i64 t),(8,.bool G),(9,.bool F),(10,.int .i64 ((f:Int)-c)),(11,.int .i64 (w:Int)),(68,.bool V)]∧k=own s 31 1 (uA e2)::O) ?_ ?_
     ·refine ZY 3 ?_
      refine Zbb 62 ef (fun K=>?_) (fun K=>?_)
      ·refine ZY 3 ?_
       refine Zbb 65 ef (fun J=>?_) (fun J=>?_)
       ·refine ZY 4 ?_;first|exact S.meet ⟨false,rfl,rfl⟩ ⟨rfl,rfl,rfl,rfl,rfl,rfl,rfl,rfl,rfl,trivial⟩ Sub.Qs|exact S.meet ⟨decide (g=1),rfl,rfl⟩ ⟨rfl,rfl,rfl,rfl,rfl,rfl,rfl,rfl,rfl,trivial⟩ Sub.Qs
       ·refine ZY 4 ?_;first|exact S.meet ⟨false,rfl,rfl⟩ ⟨rfl,rfl,rfl,rfl,rfl,rfl,rfl,rfl,rfl,trivial⟩ Sub.Qs|exact S.meet ⟨decide (g=1),rfl,rfl⟩ ⟨rfl,rfl,rfl,rfl,rfl,rfl,rfl,rfl,rfl,trivial⟩ Sub.Qs
      ·refine ZY 7 ?_;first|exact S.meet ⟨false,rfl,rfl⟩ ⟨rfl,rfl,rfl,rfl,rfl,rfl,rfl,rfl,rfl,trivial⟩ Sub.Qs|exact S.meet ⟨decide (g=1),rfl,rfl⟩ ⟨rfl,rfl,rfl,rfl,rfl,rfl,rfl,rfl,rfl,trivial⟩ Sub.Qs
     ·rintro j k ⟨V,rfl,rfl⟩
      refine Zc (fun j k=>∃e3:Array Int,PermIn c f e e3∧j=[(0,s.v),(1,.int .i64 (c:Int)),(2,.int .i64 (f:Int)),(3,.int .i64 t),(8,.bool G),(9,.bool F),(10,.int .i64 ((f:Int)-c)),(11,.int .i64 (w:Int))]∧k=own s 31 1 (uA e3)::O) ?_ ?_
      ·refine Zi ef (fun h5=>?_) (fun h5=>?_)
       ·obtain⟨T,a0⟩:=partialInsertionSort_holds swo_ltInt e2 c f Qb Qb (hB.perm Qb r);refine ZY 5 (Zp (Zcp Ze (Qm5 s e2 c f Qb Qb Qb Qb) (Zy ?_)))
        refine Zi ef (fun h6=>?_) (fun h6=>?_)
        ·obtain⟨Y,X⟩:=A _ (permIn_trans _ _ _ _ _ r T) (a0 h6);refine Zy ?_;exact Zf ef Zq (⟨_,Y,X,rfl⟩)
        ·refine Zy ?_;first|exact S.meet ⟨_,permIn_trans _ _ _ _ _ r T,rfl,rfl⟩ ⟨rfl,rfl,rfl,rfl,rfl,rfl,rfl,rfl,trivial⟩ Sub.Qs|exact S.meet ⟨e2,r,rfl,rfl⟩ ⟨rfl,rfl,rfl,rfl,rfl,rfl,rfl,rfl,trivial⟩ Sub.Qs
       ·refine Zy ?_;first|exact S.meet ⟨_,permIn_trans _ _ _ _ _ r T,rfl,rfl⟩ ⟨rfl,rfl,rfl,rfl,rfl,rfl,rfl,rfl,trivial⟩ Sub.Qs|exact S.meet ⟨e2,r,rfl,rfl⟩ ⟨rfl,rfl,rfl,rfl,rfl,rfl,rfl,rfl,trivial⟩ Sub.Qs
      ·rintro j k ⟨e3,p,rfl,rfl⟩;have a6:=p.1;have Z:=hB.perm Qb p;refine S.Q7 s Qb fun sb so Yo _ _ _=>(ZY 2 ?_)
       refine Zc (fun j k=>∃V:Bool,(V=true→0<c∧ltInt e3[c - 1]! e3[w]! = false)∧j=[(0,s.v),(1,.int .i64 (c:Int)),(2,.int .i64 (f:Int)),(3,.int .i64 t),(8,.bool G),(9,.bool F),(10,.int .i64 ((f:Int)-c)),(11,.int .i64 (w:Int)),(87,.bool V)]∧k=own s 31 1 (uA e3)::O) ?_ ?_
       ·refine Zd ([own s 31 1 (uA e3)]) [] [0,1,2] (ZY 3 ?_)
        refine Zb 75 ef (fun I=>?_) (fun I=>?_)
        ·refine Zr (Zra 3 9) (ZY 2 ?_);refine Zwg ef ef ef ef (Zm ef ef) ?_;refine Zwg ef ef ef ef (Zx (c - 1) ef (Yo) ef Qb (Qb)) ?_;refine Zwg ef ef ef ef (Zo (s) (c - 1) ef (Yo) (Yx Qb)) (ZY 2 ?_);refine Zwg ef ef ef ef (Zx (w) ef (Yo) ef Qb) ?_;refine Zwg ef ef ef ef (Zo (s) (w) ef (Yo) (Yx Qb)) ?_;refine Z1g (i:=12) ef ef ef ef ef (rfl) ?_;refine  (Zcp Ze (H2 (e3[c - 1]!) (e3[w]!)) ?_);refine Zk [13,14] (ZY 2 ?_);refine ZD ?_;first|exact S.meet ⟨false,fun h=>(by cases h),rfl,rfl⟩ ⟨rfl,rfl,rfl,rfl,rfl,rfl,rfl,rfl,rfl,trivial⟩ Sub.Qs|exact S.meet ⟨!ltInt e3[c - 1]! e3[w]!,fun h=>⟨Qb,by simpa using h⟩,rfl,rfl⟩ ⟨rfl,rfl,rfl,rfl,rfl,rfl,rfl,rfl,rfl,trivial⟩ Sub.Qs
        ·refine Zr (Zra 3 12) (ZY 8 (ZY 4 ?_));refine ZD ?_;first|exact S.meet ⟨false,fun h=>(by cases h),rfl,rfl⟩ ⟨rfl,rfl,rfl,rfl,rfl,rfl,rfl,rfl,rfl,trivial⟩ Sub.Qs|exact S.meet ⟨!ltInt e3[c - 1]! e3[w]!,fun h=>⟨Qb,by simpa using h⟩,rfl,rfl⟩ ⟨rfl,rfl,rfl,rfl,rfl,rfl,rfl,rfl,rfl,trivial⟩ Sub.Qs
       ·rintro j k ⟨V,a2,rfl,rfl⟩
        refine Zi ef (fun h7=>?_) (fun h7=>?_)
        ·obtain⟨h0,a1⟩:=a2 h7;obtain⟨mid,H,B⟩:∃mid H,partitionEqual ltInt e3 c f w=(mid,H):=⟨_,_,rfl⟩;obtain⟨r1,r2,r3,W,P⟩:=round_eq swo_ltInt (partitionEqual_holds ltInt) h0 x.1 x.2 Qb Z a1 B;refine ZY 6 ?_;refine Zp (Zcp Ze ((by have h:=Qb8 s e3 c f w x.1 x.2 Qb Qb Qb;rw[B]at h;exact h)) ?_);refine ZY 8 ?_;first|exact S.next (f - mid) ⟨mid,f,t,G,F,H,rfl,Qb,Qb,Qb,E,Qb,W,fun R o g=>A R (permIn_trans _ _ _ _ _ p (P R o g).1) (P R o g).2,rfl,rfl⟩ Qb ⟨rfl,rfl,rfl,rfl,rfl,rfl,trivial⟩ Sub.Qs|exact S.next (f - (mid+1)) ⟨mid+1,f,t,_,ap,L,rfl,Qb,Qb,Qb,E,Qb,Q,fun R o g=>A R (permIn_trans _ _ _ _ _ p (z R o g).1) (z R o g).2,rfl,rfl⟩ Qb ⟨rfl,rfl,rfl,rfl,rfl,rfl,trivial⟩ Sub.Qs|exact S.next (mid-c) ⟨c,mid,t,_,ap,L,rfl,Qb,Qb,Qb,E,Qb,Q,fun R o g=>A R (permIn_trans _ _ _ _ _ p (z R o g).1) (z R o g).2,rfl,rfl⟩ Qb ⟨rfl,rfl,rfl,rfl,rfl,rfl,trivial⟩ Sub.Qs
        ·obtain⟨mid,ap,H,B⟩:∃mid ap H,partition ltInt e3 c f w=(mid,ap,H):=⟨_,_,_,rfl⟩;obtain⟨r1,r2,r3,W,P,r6,r7⟩:=round_part swo_ltInt (partition_holds ltInt) x.1 x.2 Qb Z B;refine ZY 7 ?_;refine Zp (Zcp Ze ((by have h:=Qqb s e3 c f w x.1 x.2 Qb Qb Qb;rw[B]at h;exact h)) ?_);refine ZY 8 (ZY 7 (Zv (Zm ef ef) (ZY 2 (Zv (Zm ef ef) (ZY 6 ?_)))));refine Zv (Qdz rfl rfl (⟨Qb,Qb⟩) (Xy Qb Qb)) (ZY 8 ?_)
         refine Zj ef (fun h8=>?_) (fun h8=>?_)
         ·refine ZY 8 (ZY 5 (Zp (Zc1 Ze (ih (mid-c) Qb c mid H t rfl Qb Qb Qb E W) ?_)));rintro v M ⟨L,D,U,rfl⟩;obtain⟨Q,z⟩:=r6 L D U;have a4:=D.1;refine ZY 3 (Zv (Za ef ef) (ZY 2 ?_));first|exact S.next (f - mid) ⟨mid,f,t,G,F,H,rfl,Qb,Qb,Qb,E,Qb,W,fun R o g=>A R (permIn_trans _ _ _ _ _ p (P R o g).1) (P R o g).2,rfl,rfl⟩ Qb ⟨rfl,rfl,rfl,rfl,rfl,rfl,trivial⟩ Sub.Qs|exact S.next (f - (mid+1)) ⟨mid+1,f,t,_,ap,L,rfl,Qb,Qb,Qb,E,Qb,Q,fun R o g=>A R (permIn_trans _ _ _ _ _ p (z R o g).1) (z R o g).2,rfl,rfl⟩ Qb ⟨rfl,rfl,rfl,rfl,rfl,rfl,trivial⟩ Sub.Qs|exact S.next (mid-c) ⟨c,mid,t,_,ap,L,rfl,Qb,Qb,Qb,E,Qb,Q,fun R o g=>A R (permIn_trans _ _ _ _ _ p (z R o g).1) (z R o g).2,rfl,rfl⟩ Qb ⟨rfl,rfl,rfl,rfl,rfl,rfl,trivial⟩ Sub.Qs
         ·refine ZY 8 (ZY 3 (Zv (Za ef ef) (ZY 2 (Zp (Zc1 Ze (ih (f - (mid+1)) Qb (mid+1) f H t rfl Qb Qb Qb E P) ?_)))));rintro v M ⟨L,D,U,rfl⟩;obtain⟨Q,z⟩:=r7 L D U;have a4:=D.1;refine ZY 5 ?_;first|exact S.next (f - mid) ⟨mid,f,t,G,F,H,rfl,Qb,Qb,Qb,E,Qb,W,fun R o g=>A R (permIn_trans _ _ _ _ _ p (P R o g).1) (P R o g).2,rfl,rfl⟩ Qb ⟨rfl,rfl,rfl,rfl,rfl,rfl,trivial⟩ Sub.Qs|exact S.next (f - (mid+1)) ⟨mid+1,f,t,_,ap,L,rfl,Qb,Qb,Qb,E,Qb,Q,fun R o g=>A R (permIn_trans _ _ _ _ _ p (z R o g).1) (z R o g).2,rfl,rfl⟩ Qb ⟨rfl,rfl,rfl,rfl,rfl,rfl,trivial⟩ Sub.Qs|exact S.next (mid-c) ⟨c,mid,t,_,ap,L,rfl,Qb,Qb,Qb,E,Qb,Q,fun R o g=>A R (permIn_trans _ _ _ _ _ p (z R o g).1) (z R o g).2,rfl,rfl⟩ Qb ⟨rfl,rfl,rfl,rfl,rfl,rfl,trivial⟩ Sub.Qs
theorem Qpj{d R:Array Int}(a:PermIn 0 d.size d R)(f:SortedIn ltInt 0 d.size R):R.toList.Perm d.toList∧R.toList.Pairwise (·≤·):=by
 constructor
 ·have h:=a.2.2;have m:(R.extract 0 d.size).toList=R.toList:=by rw[←a.1];simp
  have l:(d.extract 0 d.size).toList=d.toList:=Q2
  rw[m,l]at h;exact h
 ·refine Jy.2 fun i j k g c=>?_;have h:=f i j (Xq _) c (by rw[←a.1];simpa using g);have e:i<R.size:=by simpa using k
  have b:j<R.size:=by simpa using g
  rw[Fp R i e,Fp R j b]at h;have h:=Qi2 h;simp only[Array.getElem_toList];omega
theorem Qob(s:SV)(d:Array Int)(h:d.size≤65535)(f:s.n=d.size):Spec Tryz.prog 101 [s.v] [own s 31 1 (uA d)] fun e _ c=>∃R:Array Int,R.toList.Perm d.toList∧R.toList.Pairwise (·≤·)∧c=own s 31 1 (uA R)::e:=by
 refine Zbd Tryz.func101 rfl Tryz.ntmps101 fun i e=>Zsh ?_;have g:bitsLen s.n≤16:=(bitsLen_le_iff _ 16).2 Qb;refine ZY 8 (ZY 2 ?_);refine Zv (Vu Tryz.Ze8.h (by rw[Tryz.underlying3];rfl) rfl (Qd6 Qb Qb)) (Zp (Zcp Ze (Zgf s.n Qb) (Zp (Zc1 Ze (Zlb s d.size h f (s.n-0) 0 s.n d _ rfl Qb Qb rfl Qb (.inl rfl)) ?_))));rintro v c ⟨R,b,a,rfl⟩;rw[f]at b a;refine Zy ?_;exact Zfn ef Zq (⟨R,(Qpj b a).1,(Qpj b a).2,rfl⟩)
abbrev kv(z:Int):Value:=.int .u32 z
abbrev Q5u(c a:Nat)(l:List (Int×Value)):List Assn:=[blk c 117 #[.map (some a)],Qz a .u32 l]
abbrev Zpd(m:Mx):List Nat:=m.js.map (·.id)
namespace BN
abbrev ntC(x:Nt)(v:SV):List Value:=[.int .u8 (x.kind:Int),.int .u8 (x.node:Int),.int .u32 (x.Zga:Int),.int .u32 (x.Zll:Int),.int .u32 (x.tick:Int),.int .u32 (x.gen:Int),.int .u32 (x.Qu:Int),.int .u32 (x.ver:Int),.int .u8 (x.Yl:Int),.int .i64 (x.Qg:Int),.int .u32 (x.Kc:Int),.int .u32 (x.Jz:Int),v.v]
abbrev odC(o:Od):List Value:=[.int .i64 (o.1:Int),.int .u8 (o.2.kind:Int),.int .u8 (o.2.node:Int),.int .u32 (o.2.Zga:Int),.int .u32 (o.2.Zll:Int),.int .u32 (o.2.tick:Int),.int .u32 (o.2.gen:Int),.int .u32 (o.2.Qu:Int),.int .u32 (o.2.ver:Int),.int .u8 (o.2.Yl:Int),.int .i64 (o.2.Qg:Int),.int .u32 (o.2.Kc:Int),.int .u32 (o.2.Jz:Int),.slice none 0 0]
theorem Qag:∀o,(odC o).length=14:=fun _=>rfl
abbrev pt(b:Nat):Value:=.pointer (some ⟨b,0,none⟩)
abbrev bjC(x:Bj)(c:SV)(lb a rb sb:Option Nat):List Value:=
 [.int .u32 (x.id:Int),.int .u8 (x.tier:Int),.int .i64 (x.k:Int),.int .i64 (x.w:Int),.int .u8 (x.state:Int),.int .i64 (x.Qg:Int),c.v,.map lb,.int .i64 (x.work:Int),.int .u32 (x.ver:Int),.pointer (sb.map fun b=>⟨b,0,none⟩),.bool x.Wp,.int .u32 (x.C5:Int),.map a,.bool x.again,.bool x.done,.map rb]
def Cc(r:List (Nat×Nat×Nat)):List (Int×Value):=r.map fun y=>((y.1:Int),Value.agg #[.int .u32 (y.2.1:Int),.int .u32 (y.2.2:Int)])
def M6(b:Option Nat)(s:Option (List (Nat×Nat×Nat))):Assn:=match b,s with
 | none,none=>fun _=>True
 | some b,some s=>Qz b .i64 (Cc s)
 | _,_=>fun _=>False
abbrev Bb:=SV×List Int
abbrev bbV(p:Bb):Value:=p.1.v
abbrev bbB(p:Bb):Assn:=own p.1 5 1 (bcells p.2)
def blobs(v:SV)(bs:List (List Int)):Assn:=fun h=>∃os:List Bb,os.map (·.2)=bs∧stars [own v 22 1 (os.map bbV),alls os bbB] h
def Jw(b:Option Nat)(id:Nat)(s:Option Sv):Assn:=match b,s with
 | none,none=>fun _=>True
 | some b,some s=>fun h=>∃(a:Nat) (v:SV),stars [blk b 131 #[.int .u32 (id:Int),.int .u32 (s.ver:Int),.int .i64 (s.Qg:Int),v.v,.map (some a),.bool s.told],Qz a .i64 (Vo s.have_),if s.told then (fun _=>True) else blobs v s.bs] h
 | _,_=>fun _=>False
def JI(p:Nat)(x:Bj):Assn:=fun h=>∃(b:SV) (lb a rb sb:Option Nat),b.n=x.at_.length∧lb.isSome=x.Xt.isSome∧a.isSome=x.Ql.isSome∧rb.isSome=x.X4.isSome∧sb.isSome=x.Xg.isSome ∧
 stars [blk p 90 (bjC x b lb a rb sb).toArray,own b 3 1 (nds x.at_),Vp lb x.Xt,Vp a x.Ql,M6 rb x.X4,Jw sb x.id x.Xg] h
abbrev Ig:=SV×Im
abbrev igC(p:Ig):List Value:=[.int .u32 (p.2.Qu:Int),.int .u32 (p.2.ver:Int),.int .i64 (p.2.Qg:Int),p.1.v]
abbrev igB(p:Ig):Assn:=blobs p.1 p.2.bs
def imgs(v:SV)(l:List Im):Assn:=fun h=>∃os:List Ig,os.map (·.2)=l∧stars [own v 60 4 (os.flatMap igC),alls os igB] h
structure JOk(N:Nat)(x:Bj):Prop where
 P3:1≤x.id
 Rx:x.id≤4294967295
 tier:x.tier≤3
 k1:1≤x.k
 kn:x.k≤N
 w:x.w≤10000
 cr:x.Qg≤x.w
 wk:x.work≤x.w
 Uy:x.at_.Pairwise (· < ·)
 at_:∀n∈x.at_,n<N
 drop:∀d,x.Ql=some d→d.Nodup
 lod:∀d,x.Xt=some d→d.Nodup
 X4:∀r,x.X4=some r→∀y∈r,y.2.1≤4294967295∧y.2.2≤4294967295
 ld:x.state=1→x.Xt.isSome=true
 svl:∀s,x.Xg=some s→s.bs.length=x.at_.length∧s.Qg≤x.w
structure Yu(b:Br):Prop where
 R:b.m.R=b.rows
 N:b.m.N=b.nodes
 Fu:W6 b.m
 Y4:Wm b.js
 Qu:∀x∈b.js,JOk b.nodes x
 Dk:b.js.length≤1000
 q1:1≤b.Yv
 q2:b.Yv≤1000
 g1:1≤b.Wu
 g2:b.Wu≤1000
 now:b.now≤4294967295
 fin:b.fin≤4294967295
 mem:b.members.length≤1000
 C4:∀d,b.stops=some d→d.Nodup
abbrev bC(st:Br)(a jb b:Nat)(ov c d mv:SV)(sb:Option Nat):List Value:=
 [.int .i64 (st.nodes:Int),.int .i64 (st.rows:Int),.int .i64 (st.Yv:Int),.int .i64 (st.Wu:Int),.int .u32 (st.hold:Int),.int .u32 (st.now:Int),.map (some a),.map (some jb),pt b,ov.v,c.v,d.v,.int .u32 (st.gen:Int),.int .i64 st.row,mv.v,.int .u32 (st.fin:Int),.map sb,.bool st.Qn]
abbrev jI(ps:Nat→Nat)(x:Bj):Assn:=JI (ps x.id) x
abbrev bX(b:Nat)(st:Br)(ps:Nat→Nat)(a jb c:Nat)(ov d e mv:SV)(sb:Option Nat)(l:List (Int×Value))(Γ:List Assn):List Assn:=
 blk b 84 (bC st a jb c ov d e mv sb).toArray::Qz a .i64 (Vo st.up)::Qz jb .u32 l::alls st.js (jI ps)::MI c st.m::own ov 97 14 (st.Qd.flatMap odC)::imgs d st.Qf::own e 31 1 (Yp st.done)::own mv 31 1 (Yp st.members)::Vp sb st.stops::Γ
structure BF(st:Br)(ps:Nat→Nat)(ov iv dv mv:SV)(sb:Option Nat)(l:List (Int×Value)):Prop where
 ok:Yu st
 perm:l.Perm (st.js.map (jE ps))
 on:ov.n=st.Qd.length
 im:iv.n=st.Qf.length
 dn:dv.n=st.done.length
 mn:mv.n=st.members.length
 sn:sb.isSome=st.stops.isSome
def BP(b:Nat)(st:Br)(ps:Nat→Nat):Assn:=fun h=>∃(ub jb mb:Nat) (ov iv dv mv:SV) (sb:Option Nat) (l:List (Int×Value)),BF st ps ov iv dv mv sb l∧stars (bX b st ps ub jb mb ov iv dv mv sb l []) h
section
variable {n:Nat}{md:Bool}{w0:WM md}{ρ:Env}{Γ Δ:List Assn}{φ:Act→World→Prop}
theorem S.W5(b:Nat)(st:Br)(ps:Nat→Nat)[p:Pick (BP b st ps) Γ Δ](k:∀f jb g ov c e mv sb l,BF st ps ov c e mv sb l→S n w0 ρ (bX b st ps f jb g ov c e mv sb l Δ) φ):S n w0 ρ Γ φ:=by
 intro a w q o m;obtain⟨h0,j,t,r,d,i,h,⟨f,jb,g,ov,c,e,mv,sb,l,q1,q2⟩,s⟩:=o.Qs p.Qs;exact k f jb g ov c e mv sb l q1 a w q ⟨h0,j,(Ent.unpack (bX b st ps f jb g ov c e mv sb l []) Δ) _ ⟨t,r,d,i,h,q2,s⟩⟩ m
theorem Ent.bp{b:Nat}{st:Br}{ps:Nat→Nat}{ub jb mb:Nat}{ov iv dv mv:SV}{sb:Option Nat}{l:List (Int×Value)}(h:BF st ps ov iv dv mv sb l)(Γ:List Assn):Ent (bX b st ps ub jb mb ov iv dv mv sb l Γ) (BP b st ps::Γ):=
 (Ent.pack (bX b st ps ub jb mb ov iv dv mv sb l []) Γ).trans (Ent.Kg Γ fun _ s=>⟨ub,jb,mb,ov,iv,dv,mv,sb,l,h,s⟩)
theorem S.Yk(b:Nat)(st:Br)(ps:Nat→Nat)(d jb e:Nat)(ov a c mv:SV)(sb:Option Nat)(l:List (Int×Value))(h:BF st ps ov a c mv sb l)[q:Picks (bX b st ps d jb e ov a c mv sb l []) Γ Δ](k:S n w0 ρ (BP b st ps::Δ) φ):S n w0 ρ Γ φ:=
 S.Qs (q.Qs.trans (Ent.bp h Δ)) k
theorem S.J3(b:Nat)(st:Br)(ps:Nat→Nat)[p:Pick (BP b st ps) Γ Δ](k:Yu st→S n w0 ρ Γ φ):S n w0 ρ Γ φ:=by
 intro a w e c d;obtain⟨_,_,_,_,_,_,_,_,_,_,_,q1,_⟩:=(c.Qs p.Qs).head;exact k q1.ok a w e c d
theorem S.Qnn(p:Nat)(x:Bj)[q:Pick (JI p x) Γ Δ](k:∀c lb b rb sb,c.n=x.at_.length→lb.isSome=x.Xt.isSome→b.isSome=x.Ql.isSome→rb.isSome=x.X4.isSome→sb.isSome=x.Xg.isSome→S n w0 ρ (blk p 90 (bjC x c lb b rb sb).toArray::own c 3 1 (nds x.at_)::Vp lb x.Xt::Vp b x.Ql::M6 rb x.X4::Jw sb x.id x.Xg::Δ) φ):S n w0 ρ Γ φ:=by
 intro a w o m l;obtain⟨h0,j,t,r,d,i,h,⟨c,lb,b,rb,sb,q1,q2,q3,g,f,e⟩,s⟩:=m.Qs q.Qs;exact k c lb b rb sb q1 q2 q3 g f a w o ⟨h0,j,(Ent.unpack [blk p 90 (bjC x c lb b rb sb).toArray,own c 3 1 (nds x.at_),Vp lb x.Xt,Vp b x.Ql,M6 rb x.X4,Jw sb x.id x.Xg] Δ) _ ⟨t,r,d,i,h,e,s⟩⟩ l
theorem S.Qas(p:Nat)(x:Bj)(b:SV)(lb a rb sb:Option Nat)(g:b.n=x.at_.length)(f:lb.isSome=x.Xt.isSome)(e:a.isSome=x.Ql.isSome)(d:rb.isSome=x.X4.isSome)(c:sb.isSome=x.Xg.isSome)
  [q:Picks [blk p 90 (bjC x b lb a rb sb).toArray,own b 3 1 (nds x.at_),Vp lb x.Xt,Vp a x.Ql,M6 rb x.X4,Jw sb x.id x.Xg] Γ Δ] (k:S n w0 ρ (JI p x::Δ) φ):S n w0 ρ Γ φ:=
 S.Qs (q.Qs.trans ((Ent.pack [_,_,_,_,_,_] Δ).trans (Ent.Kg Δ fun _ s=>⟨b,lb,a,rb,sb,g,f,e,d,c,s⟩))) k
end
theorem Spec.J3{b:Nat}{st:Br}{ps:Nat→Nat}{P:Program}{f:FuncId}{args:List Value}{pre:List Assn}{post:List Assn→Value→List Assn→Prop}{md:Bool}(h:Yu st→Spec P f args (BP b st ps::pre) post md):Spec P f args (BP b st ps::pre) post md:=by
 intro Γ w a;obtain⟨_,_,_,_,_,_,_,_,_,_,_,q1,_⟩:=a.head;exact h q1.ok Γ w a
abbrev rkC(r:Rk):List Value:=[.int .u8 (r.place:Int),.bool r.run,.int .u32 (r.gen:Int),.int .u32 (r.Kc:Int),.int .u32 (r.Jz:Int)]
abbrev Ro:=Nat×Rk×Nat
abbrev roE(o:Ro):Int×Value:=((o.1:Int),pt o.2.2)
abbrev roB(o:Ro):Assn:=blk o.2.2 111 (rkC o.2.1).toArray
abbrev roR(o:Ro):Nat×Rk:=(o.1,o.2.1)
structure Ot where
 x:Nt
 v:SV
 bs:List Int
abbrev otC(o:Ot):List Value:=ntC o.x o.v
abbrev otB(o:Ot):Assn:=own o.v 5 1 (bcells o.bs)
abbrev otR(o:Ot):Nt×List Int:=(o.x,o.bs)
abbrev niC(x:Nt):List Value:=ntC x SV.nil
abbrev ndX(p:Nat)(nd:Nd)(rb:Nat)(a ov:SV)(rs:List Ro)(os:List Ot)(Γ:List Assn):List Assn:=
 blk p 107 #[.bool nd.up,.map (some rb),a.v,ov.v,.bool nd.Qj]::Qz rb .u32 (rs.map roE)::alls rs roB::own a 72 13 (nd.Yy.flatMap niC)::own ov 72 13 (os.flatMap otC)::alls os otB::Γ
structure NF(nd:Nd)(iv ov:SV)(rs:List Ro)(os:List Ot):Prop where
 rk:rs.map roR=nd.rk
 os:os.map otR=nd.out
 i:iv.n=nd.Yy.length
 o:ov.n=nd.out.length
def NI(p:Nat)(nd:Nd):Assn:=fun h=>∃(rb:Nat) (a ov:SV) (rs:List Ro) (os:List Ot),NF nd a ov rs os∧stars (ndX p nd rb a ov rs os []) h
abbrev joC(j:Jo):List Value:=[.int .u32 (j.id:Int),.int .u8 (j.tier:Int),.int .i64 (j.k:Int),.int .i64 (j.w:Int),.int .u8 0,.int .i64 0]
abbrev joE(j:Jo):Int×Value:=((j.id:Int),.agg (joC j).toArray)
abbrev E4(l:List Nat):List (Int×Value):=l.map fun n:Nat=>((n:Int),Value.bool true)
def Qgr(b:Nat)(f:List (Nat×Nat)):Assn:=fun h=>∃l:List (Int×Value),(∀id:Nat,(Yh (id:Int) l).getD (.int .i64 0)=.int .i64 (V6 id f:Nat))∧Qz b .u32 l h
def Ql1(b:Nat):Assn:=fun h=>∃l:List (Int×Value),Qz b .u32 l h
def Hf(v:SV)(n:Nat):Assn:=fun h=>∃l:List Nat,l.length≤n∧v.n=l.length∧own v 31 1 (Yp l) h
abbrev smC(s:Sm)(b:Nat)(nv:SV)(rb jb e g c:Nat)(d f a:SV):List Value:=
 [pt b,.int .i64 (s.cn:Int),.int .i64 (s.cr:Int),.int .i64 (s.cq:Int),.int .i64 (s.cg:Int),nv.v,.int .u32 (s.now:Int),.int .u32 (s.next:Int),.map (some rb),.map (some jb),.map (some e),.map (some g),d.v,.map (some c),f.v,a.v]
abbrev No:=Nat×Nd
abbrev noB(o:No):Assn:=NI o.1 o.2
abbrev noV(o:No):Value:=pt o.1
abbrev smX(p:Nat)(s:Sm)(b:Nat)(ps:Nat→Nat)(nv:SV)(ns:List No)(rb jb e g c:Nat)(d f a:SV)(Γ:List Assn):List Assn:=
 blk p 55 (smC s b nv rb jb e g c d f a).toArray::BP b s.b ps::own nv 103 1 (ns.map noV)::alls ns noB::Qgr rb s.X4::Qz jb .u32 (s.Wy.map joE)::Qz e .u32 (E4 s.gone)::Qz g .u32 (E4 s.done)::imgs d s.Qf::Ql1 c::Hf f s.fu::Hf a s.fu::Γ
structure SF(s:Sm)(nv:SV)(ns:List No)(iv:SV):Prop where
 nd:ns.map (·.2)=s.nd
 nn:nv.n=s.nd.length
 im:iv.n=s.Qf.length
def SP(p:Nat)(s:Sm):Assn:=fun h=>∃(b:Nat) (ps:Nat→Nat) (nv:SV) (ns:List No) (rb jb e g d:Nat) (a f c:SV),SF s nv ns a∧stars (smX p s b ps nv ns rb jb e g d a f c []) h
section
variable {n:Nat}{md:Bool}{w0:WM md}{ρ:Env}{Γ Δ:List Assn}{φ:Act→World→Prop}
theorem S.E7(p:Nat)(nd:Nd)[q:Pick (NI p nd) Γ Δ](k:∀rb b ov rs os,NF nd b ov rs os→S n w0 ρ (ndX p nd rb b ov rs os Δ) φ):S n w0 ρ Γ φ:=by
 intro a w i h g;obtain⟨h0,f,l,j,d,e,c,⟨rb,b,ov,rs,os,q1,q2⟩,s⟩:=h.Qs q.Qs;exact k rb b ov rs os q1 a w i ⟨h0,f,(Ent.unpack (ndX p nd rb b ov rs os []) Δ) _ ⟨l,j,d,e,c,q2,s⟩⟩ g
theorem S.Yw(p:Nat)(nd:Nd)(rb:Nat)(a ov:SV)(rs:List Ro)(os:List Ot)(h:NF nd a ov rs os)[q:Picks (ndX p nd rb a ov rs os []) Γ Δ](k:S n w0 ρ (NI p nd::Δ) φ):S n w0 ρ Γ φ:=
 S.Qs (q.Qs.trans ((Ent.pack (ndX p nd rb a ov rs os []) Δ).trans (Ent.Kg Δ fun _ s=>⟨rb,a,ov,rs,os,h,s⟩))) k
theorem S.Hh(p:Nat)(s:Sm)[q:Pick (SP p s) Γ Δ](k:∀b ps nv ns rb jb g i f c h e,SF s nv ns c→S n w0 ρ (smX p s b ps nv ns rb jb g i f c h e Δ) φ):S n w0 ρ Γ φ:=by
 intro a w u t r;obtain⟨h0,o,x,v,d,m,l,⟨b,ps,nv,ns,rb,jb,g,i,f,c,h,e,q1,q2⟩,j⟩:=t.Qs q.Qs;exact k b ps nv ns rb jb g i f c h e q1 a w u ⟨h0,o,(Ent.unpack (smX p s b ps nv ns rb jb g i f c h e []) Δ) _ ⟨x,v,d,m,l,q2,j⟩⟩ r
theorem S.Xz(p:Nat)(s:Sm)(b:Nat)(ps:Nat→Nat)(nv:SV)(ns:List No)(rb jb e g d:Nat)(a f c:SV)(h:SF s nv ns a)[q:Picks (smX p s b ps nv ns rb jb e g d a f c []) Γ Δ](k:S n w0 ρ (SP p s::Δ) φ):S n w0 ρ Γ φ:=
 S.Qs (q.Qs.trans ((Ent.pack (smX p s b ps nv ns rb jb e g d a f c []) Δ).trans (Ent.Kg Δ fun _ i=>⟨b,ps,nv,ns,rb,jb,e,g,d,a,f,c,h,i⟩))) k
end
section
variable {α:Type}
theorem Jf(k:Nat)(v:α)(l:List (Nat×α))(i:Nat):Yt i (Wl k v l)=if i=k then some v else Yt i l:=by
 induction l with
 | nil=>
  simp only[Wl,Yt]
  by_cases h:k=i
  ·rw[Qh h,Qh h.symm]
  ·rw[Qe h,Qe (fun e=>h e.symm)]
 | cons x l b=>
  unfold Wl
  by_cases a:x.1=k
  ·rw[Qh a];simp only[Yt]
   by_cases h:k=i
   ·rw[Qh h,Qh h.symm]
   ·rw[Qe h,Qe (fun e=>h e.symm),Qe Qb]
  ·rw[Qe a];simp only[Yt]
   by_cases h:x.1=i
   ·rw[Qh h,Qe Qb,Qh h]
   ·rw[Qe h,b,Qe h]
abbrev keys(l:List (Nat×α)):List Nat:=l.map (·.1)
theorem Ea{k:Nat}{l:List (Nat×α)}:Yt k l=none↔k∉keys l:=by
 induction l with
 | nil=>simp[Yt]
 | cons x l b=>
  simp only[Yt,keys,Z7,Yf,not_or]
  by_cases h:x.1=k
  ·rw[Qh h];simp[h]
  ·rw[Qe h,b];exact⟨fun a=>⟨fun e=>h e.symm,a⟩,fun a=>a.2⟩
theorem Fc{k:Nat}{v:α}{l:List (Nat×α)}(h:Yt k l=some v):(k,v)∈l:=by
 induction l with
 | nil=>cases h
 | cons x l a=>
  simp only[Yt]at h
  split at h
  ·rename_i e;cases h;exact Yf.2 (.inl (by rw[←e]))
  ·exact Ym _ (a h)
theorem Et{k:Nat}{v:α}{l:List (Nat×α)}(a:(keys l).Nodup)(h:(k,v)∈l):Yt k l=some v:=by
 induction l with
 | nil=>cases h
 | cons x l b=>
  simp only[keys,Z7,Vz]at a;simp only[Yt]
  rcases Yf.1 h with e|h
  ·rw[Qh (by rw[←e]),←e]
  ·rw[Qe (fun e=>a.1 (Qq.2 ⟨_,h,e.symm⟩)),b a.2 h]
theorem Qqf(k:Nat)(l:List (Nat×α)):(Fe k l).Sublist l:=by
 induction l with
 | nil=>exact List.Sublist.refl _
 | cons x l a=>
  unfold Fe
  split
  ·exact List.sublist_cons_self _ _
  ·exact a.cons_cons _
theorem Q0l(k:Nat){l:List (Nat×α)}(h:(keys l).Nodup):(keys (Fe k l)).Nodup:=((Qqf k l).map _).nodup h
theorem Qhg(k:Nat){l:List (Nat×α)}(b:(keys l).Nodup)(i:Nat):Yt i (Fe k l)=if i=k then none else Yt i l:=by
 induction l with
 | nil=>simp[Fe,Yt]
 | cons x l c=>
  simp only[keys,Z7,Vz]at b;unfold Fe
  by_cases a:x.1=k
  ·rw[Qh a]
   by_cases h:i=k
   ·rw[Qh h];exact Ea.2 (by rw[h,←a];exact b.1)
   ·rw[Qe h];simp only[Yt];rw[Qe Qb]
  ·rw[Qe a];simp only[Yt]
   by_cases h:x.1=i
   ·rw[Qh h,Qe Qb,Qh h]
   ·rw[Qe h,c b.2,Qe h]
theorem Qnc{k:Nat}{v:α}{l:List (Nat×α)}{i:Nat}:i∈keys (Wl k v l)↔i=k∨i∈keys l:=by
 have a:=Jf k v l i
 constructor
 ·intro h
  by_cases e:i=k
  ·exact .inl e
  ·rw[Qe e]at a;refine .inr (W7 fun b=>?_);rw[Ea.2 b]at a;exact Ea.1 a h
 ·intro h;refine W7 fun b=>?_;rw[Ea.2 b]at a
  rcases h with h|h
  ·rw[Qh h]at a;cases a
  ·by_cases e:i=k
   ·rw[Qh e]at a;cases a
   ·rw[Qe e]at a;exact Ea.1 a.symm h
theorem Av(k:Nat)(v:α){l:List (Nat×α)}(a:(keys l).Nodup):(keys (Wl k v l)).Nodup:=by
 induction l with
 | nil=>simp[Wl,keys]
 | cons x l b=>
  have c:=a;simp only[keys,Z7,Vz]at a;unfold Wl
  split
  ·rename_i e;simp only[keys,Z7,Vz];rw[←e];exact a
  ·rename_i e;show (x.1::keys (Wl k v l)).Nodup;rw[Vz];refine⟨fun h=>?_,b a.2⟩
   rcases Qnc.1 h with h|h
   ·exact e h
   ·exact a.1 h
theorem Hk{k:Nat}{v:α}{l:List (Nat×α)}{y:Nat×α}(h:y∈Wl k v l):y=(k,v)∨(y∈l):=by
 induction l with
 | nil=>exact .inl (Vd.1 h)
 | cons x l a=>
  unfold Wl at h
  split at h
  ·rcases Yf.1 h with h|h
   ·exact .inl h
   ·exact .inr (Ym _ h)
  ·rcases Yf.1 h with h|h
   ·exact .inr (by rw[h];exact Z0 ..)
   ·rcases a h with h|h
    ·exact .inl h
    ·exact .inr (Ym _ h)
theorem Ax{k:Nat}{l:List (Nat×α)}{y:Nat×α}(h:y∈Fe k l):y∈l:=(Qqf k l).mem h
end
def K8(l:Rs):Prop:=∀y∈l,y.2.run=false
def Gm(l:Rs):Prop:=∀y∈l,∀z∈l,y.2.run=true→z.2.run=true→y.1=z.1
theorem K8.one{l:Rs}(h:K8 l):Gm l:=fun y b _ _ a _=>by rw[h y b]at a;cases a
theorem Qgg{l:Rs}(h:K8 l):Ya l=0:=by
 unfold Ya;have:l.find? (·.2.run)=none:=List.find?_eq_none.2 fun y a=>by rw[h y a];decide
 rw[this]
theorem Mw{l:Rs}(h:Ya l≠0):∃r,(Ya l,r)∈l∧r.run=true:=by
 unfold Ya at h ⊢;cases a:l.find? (·.2.run) with
 | none=>rw[a]at h;exact absurd rfl h
 | some x=>exact⟨x.2,List.mem_of_find?_eq_some a,by have b:=List.find?_some a;exact b⟩
def pos(l:Rs):Prop:=∀y∈l,y.1≠0
theorem Sf{l:Rs}(d:pos l)(h:Ya l=0):K8 l:=fun y b=>by
 cases c:y.2.run with
 | false=>rfl
 | true=>
  exfalso;unfold Ya at h;cases a:l.find? (·.2.run) with
  | none=>exact absurd c (by simpa using List.find?_eq_none.1 a y b)
  | some x=>rw[a]at h;exact d x (List.mem_of_find?_eq_some a) h
theorem Q8k{l:Rs}(j:(keys l).Nodup)(h:Gm l):amB l=true:=by
 refine Zh ?_;have b:(l.filter (·.2.run)).Pairwise fun y z=>y.1≠z.1:=List.Pairwise.sublist List.filter_sublist (Ww.1 (Pk.1 j));cases a:l.filter (·.2.run) with
 | nil=>exact Xq _
 | cons y m=>
  cases m with
  | nil=>exact Q1 _
  | cons z m=>
   rw[a]at b;have i:y∈l.filter (·.2.run):=by rw[a];exact Z0 ..
   have g:z∈l.filter (·.2.run):=by rw[a];exact Ym _ (Z0 ..)
   obtain⟨f,e⟩:=Y5.1 i;obtain⟨d,c⟩:=Y5.1 g;exact absurd (h y f z d e c) ((Ws.1 b).1 z (Z0 ..))
theorem Qgh{l:Rs}{j:Nat}{r:Rk}(g:Gm l)(c:pos l)(b:(j,r)∈l)(a:r.run=true):Ya l=j:=by
 have h0:Ya l≠0:=fun e=>by
  have:=Sf c e (j,r) b;rw[a]at this;cases this
 obtain⟨h,f,d⟩:=Mw h0;exact g _ f _ b d a
theorem Q1z{nd:Nd}{x:Nt}(h:nd.Qj=true):(Z9 nd x).Qj=true:=by
 unfold Z9
 split
 ·simp[h]
 split
 ·split <;> simp[h]
 split
 ·split
  ·split <;> simp[h]
  ·simp[h]
 split
 ·split <;> simp[h]
 split <;> simp[h]
theorem Qvd{l:List Nt}:∀ {nd:Nd},nd.Qj=true→(l.foldl Z9 nd).Qj=true:=by
 induction l with
 | nil=>exact fun h=>h
 | cons x l a=>exact fun h=>a (Q1z h)
theorem Qiq{l m:List Nt}{nd:Nd}(h:((l++m).foldl Z9 nd).Qj=false):(l.foldl Z9 nd).Qj=false:=by
 rw[Ha]at h;cases a:(l.foldl Z9 nd).Qj with
 | false=>rfl
 | true=>rw[Qvd a]at h;cases h
abbrev core(nd:Nd):Rs×Bool:=(nd.rk,nd.Qj)
theorem Qit{a b:Nd}(h:core a=core b)(x:Nt):core (Z9 a x)=core (Z9 b x):=by
 obtain⟨e,d⟩:=Gr h;unfold Z9;rw[e,d]
 by_cases i:x.kind=3
 ·simp only[Qh i]
 simp only[Qe i]
 by_cases k5:x.kind=5
 ·simp only[Qh k5];cases Yt x.Qu b.rk <;> rfl
 simp only[Qe k5]
 by_cases g:x.kind=6
 ·simp only[Qh g]
  by_cases j:Ya b.rk≠0
  ·simp only[Qh j];cases Yt (Ya b.rk) b.rk <;> first|rfl|simp[e,d]
  ·simp only[Qe j]
 simp only[Qe g]
 by_cases f:x.kind=8
 ·simp only[Qh f];cases Yt x.Qu b.rk <;> rfl
 simp only[Qe f]
 by_cases c:x.kind=10
 ·simp only[Qh c]
 simp only[Qe c];simp[e,d]
theorem Qlm{l:List Nt}:∀ {a b:Nd},core a=core b→core (l.foldl Z9 a)=core (l.foldl Z9 b):=by
 induction l with
 | nil=>exact fun h=>h
 | cons x l c=>exact fun h=>c (Qit h x)
def fin(rk:Rs)(q:List Nt):Nd:=q.foldl Z9 ⟨true,rk,[],[],false⟩
theorem Qri(rk:Rs)(q:List Nt)(x:Nt):fin rk (q++[x])=Z9 (fin rk q) x:=by
 unfold fin;rw[Ha];rfl
theorem Qrj(nd:Nd)(x:Nt)(q:List Nt)(a:(Z9 nd x).Qj=false):core (fin (Z9 nd x).rk q)=core (q.foldl Z9 (Z9 nd x)):=by
 unfold fin;exact Qlm (by rw[core,core,a])
abbrev jT(ps:Nat→Nat)(js:List Bj)(i:Nat):Assn:=alls (js.take i) (jI ps)
abbrev jD(ps:Nat→Nat)(js:List Bj)(i:Nat):Assn:=alls (js.drop (i+1)) (jI ps)
abbrev jX(p:Nat)(x:Bj)(b:SV)(lb a rb sb:Option Nat)(Γ:List Assn):List Assn:=
 blk p 90 (bjC x b lb a rb sb).toArray::own b 3 1 (nds x.at_)::Vp lb x.Xt::Vp a x.Ql::M6 rb x.X4::Jw sb x.id x.Xg::Γ
structure JF(x:Bj)(av:SV)(lb db rb sb:Option Nat):Prop where
 an:av.n=x.at_.length
 l:lb.isSome=x.Xt.isSome
 d:db.isSome=x.Ql.isSome
 r:rb.isSome=x.X4.isSome
 s:sb.isSome=x.Xg.isSome
abbrev bR(b:Nat)(st:Br)(ps:Nat→Nat)(a jb c:Nat)(ov d e mv:SV)(sb:Option Nat)(l:List (Int×Value))(i:Nat)(Γ:List Assn):List Assn:=
 blk b 84 (bC st a jb c ov d e mv sb).toArray::Qz a .i64 (Vo st.up)::Qz jb .u32 l::jT ps st.js i::jD ps st.js i::MI c st.m::own ov 97 14 (st.Qd.flatMap odC)::imgs d st.Qf::own e 31 1 (Yp st.done)::own mv 31 1 (Yp st.members)::Vp sb st.stops::Γ
theorem Ent.third(A B C:Assn)(Γ:List Assn):Ent (A::B::C::Γ) (C::A::B::Γ):=((Ent.swap B C Γ).cons A).trans (Ent.swap A C _)
theorem Ent.focus{b:Nat}{st:Br}{ps:Nat→Nat}{e jb a:Nat}{ov c d mv:SV}{sb:Option Nat}{l:List (Int×Value)}{i:Nat}{x:Bj}(f:st.js[i]?=some x)(Γ:List Assn) :
  Ent (bX b st ps e jb a ov c d mv sb l Γ) (JI (ps x.id) x::bR b st ps e jb a ov c d mv sb l i Γ):=by
 have g:Ent (alls st.js (jI ps)::MI a st.m::own ov 97 14 (st.Qd.flatMap odC)::imgs c st.Qf::own d 31 1 (Yp st.done)::own mv 31 1 (Yp st.members)::Vp sb st.stops::Γ) (JI (ps x.id) x::jT ps st.js i::jD ps st.js i::MI a st.m::own ov 97 14 (st.Qd.flatMap odC)::imgs c st.Qf::own d 31 1 (Yp st.done)::own mv 31 1 (Yp st.members)::Vp sb st.stops::Γ):=Ent.U5 (jI ps) f _;exact((((g.cons _).cons _).cons _).trans (((Ent.swap _ _ _).cons _).cons _)).trans (((Ent.swap _ _ _).cons _).trans (Ent.swap _ _ _))
theorem Ent.unfocus{b:Nat}{st:Br}{ps:Nat→Nat}{f jb d:Nat}{ov a c mv:SV}{sb:Option Nat}{l:List (Int×Value)}{i:Nat}{x x':Bj}(h:st.js[i]?=some x)(e:x'.id=x.id)(Yr:Xe st.js x'=st.js.set i x')(j:BF (st.set x') ps ov a c mv sb l)(Γ:List Assn) :
  Ent (JI (ps x.id) x'::bR b st ps f jb d ov a c mv sb l i Γ) (BP b (st.set x') ps::Γ):=by
 have g:Ent (JI (ps x.id) x'::jT ps st.js i::jD ps st.js i::MI d st.m::own ov 97 14 (st.Qd.flatMap odC)::imgs a st.Qf::own c 31 1 (Yp st.done)::own mv 31 1 (Yp st.members)::Vp sb st.stops::Γ) (alls (st.js.set i x') (jI ps)::MI d st.m::own ov 97 14 (st.Qd.flatMap odC)::imgs a st.Qf::own c 31 1 (Yp st.done)::own mv 31 1 (Yp st.members)::Vp sb st.stops::Γ):=by
  rw[←e];exact Ent.Xo (jI ps) (x':=x') h _
 have m:Ent (bX b (st.set x') ps f jb d ov a c mv sb l Γ) (BP b (st.set x') ps::Γ):=Ent.bp j Γ;have k:(st.set x').js=st.js.set i x':=Yr;rw[←k]at g;exact(((Ent.swap _ _ _).trans ((Ent.swap _ _ _).cons _)).trans (((Ent.swap _ _ _).cons _).cons _)).trans ((((g.cons _).cons _).cons _).trans m)
theorem Ent.ungone{b:Nat}{st st':Br}{ps:Nat→Nat}{f jb g:Nat}{ov c e mv:SV}{sb:Option Nat}{l:List (Int×Value)}{i:Nat}(d:st'.js=st.js.eraseIdx i)(h:BF st' ps ov c e mv sb l)(Γ:List Assn) :
  Ent (bR b {st' with js:=st.js} ps f jb g ov c e mv sb l i Γ) (BP b st' ps::Γ):=by
 have k:∀a:List Assn,Ent (jT ps st.js i::jD ps st.js i::a) (alls st'.js (jI ps)::a):=fun a=>by
  rw[d,Qdq];exact Ent.Cv _ _ _ _
 have j:Ent (bX b st' ps f jb g ov c e mv sb l Γ) (BP b st' ps::Γ):=Ent.bp h Γ;exact((((k _).cons _).cons _).cons _).trans j
section
variable {n:Nat}{md:Bool}{w0:WM md}{ρ:Env}{Γ Δ:List Assn}{φ:Act→World→Prop}
theorem S.X7(b:Nat){T:TypeId}{c:Array Value}(a:Array Value)[h:Mh Γ b T c Δ](e:c=a)(k:S n w0 ρ (blk b T a::Δ) φ):S n w0 ρ Γ φ:=S.Qs h.Qs (e ▸ k)
theorem S.Uu(b:Nat)(st:Br)(ps:Nat→Nat)(x:Bj)(r:Qk st.js x.id=some x)[p:Pick (BP b st ps) Γ Δ] (k:∀g jb h ov c d mv sb l i f lb e rb a,BF st ps ov c d mv sb l→st.js[i]?=some x→(∀y:Bj,y.id=x.id→Xe st.js y=st.js.set i y)→rmJ st.js x.id=st.js.eraseIdx i→JF x f lb e rb a →
  S n w0 ρ (jX (ps x.id) x f lb e rb a (bR b st ps g jb h ov c d mv sb l i Δ)) φ):S n w0 ρ Γ φ:=by
 refine S.W5 b st ps fun g jb h ov c d mv sb l j=>?_;obtain⟨i,m,t,s⟩:=P5 j.ok.Y4 r;refine S.Qs (Ent.focus m Δ) ?_;refine S.Qnn (ps x.id) x fun f lb e rb a q1 q2 q3 q o=>?_;exact k g jb h ov c d mv sb l i f lb e rb a j m t s ⟨q1,q2,q3,q,o⟩
theorem S.Q0(b:Nat)(st:Br)(ps:Nat→Nat)(j jb m:Nat)(ov g h mv:SV)(sb:Option Nat)(l:List (Int×Value))(i:Nat){x:Bj}(a:Bj)(f:SV)(lb e rb c:Option Nat)(p:st.js[i]?=some x)(o:a.id=x.id)(Yr:Xe st.js a=st.js.set i a)(r:BF (st.set a) ps ov g h mv sb l)(d:JF a f lb e rb c)
  [q:Picks (jX (ps x.id) a f lb e rb c (bR b st ps j jb m ov g h mv sb l i [])) Γ Δ] (k:S n w0 ρ (BP b (st.set a) ps::Δ) φ):S n w0 ρ Γ φ:=by
 refine S.Qs ?_ k
 have t:Ent (jX (ps x.id) a f lb e rb c (bR b st ps j jb m ov g h mv sb l i Δ)) (JI (ps x.id) a::bR b st ps j jb m ov g h mv sb l i Δ):=
  (Ent.pack (jX (ps x.id) a f lb e rb c []) _).trans (Ent.Kg _ fun _ s=>⟨f,lb,e,rb,c,d.an,d.l,d.d,d.r,d.s,s⟩)
 exact q.Qs.trans (t.trans (Ent.unfocus p o Yr r Δ))
end
theorem Yu.set{st:Br}(h:Yu st){x:Bj}(c:JOk st.nodes x):Yu (st.set x):=⟨h.R,h.N,h.Fu,Mt h.Y4 x,fun y b=>by
 obtain⟨z,a,e⟩:=Qq.1 b
 have d:JOk st.nodes y:=by
  rw[←e]
  split
  ·exact c
  ·exact h.Qu z a
 exact d,by show (Xe st.js x).length≤_;rw[G8];exact h.Dk,h.q1,h.q2,h.g1,h.g2,h.now,h.fin,h.mem,h.C4⟩
theorem BF.set{st:Br}{ps:Nat→Nat}{ov a b mv:SV}{sb:Option Nat}{l:List (Int×Value)}(h:BF st ps ov a b mv sb l){x:Bj}(c:JOk st.nodes x):BF (st.set x) ps ov a b mv sb l:=⟨h.ok.set c,by show l.Perm ((Xe st.js x).map (jE ps));rw[Qt0];exact h.perm,h.on,h.im,h.dn,h.mn,h.sn⟩
theorem Yu.at_{st:Br}(h:Yu st){x:Bj}(a:Qk st.js x.id=some x):JOk st.nodes x:=h.Qu x (Qi a).1
theorem Qrd(b:Nat)(s:List Nat)(n:Nat):Spec Tryz.prog 73 [.map (some b),.int .i64 (n:Int)] [Qz b .i64 (Vo s)] fun Γ v a=>v=.bool (decide (n∈s))∧a=Qz b .i64 (Vo s)::Γ:=by
 refine Zbd Tryz.func73 rfl Tryz.ntmps73 fun w0 Γ=>Zsh (ZY 8 ?_);refine Zv (M1 (.agg #[]) (decide (n∈s)) Tryz.underlying81 Tryz.underlying3 Tryz.Q2q.h rfl rfl rfl (by rw[Q3k];by_cases h:n∈s;(rw[Qh h,Zh h]);(rw[Qe h,Q6 h]))) (ZY 3 (Zp (S.alloc Tryz.Q2s.h rfl ?_)));intro c;refine Zp (Zs ef ef (cs':=[]) ef (ZY 8 ?_));exact Zf ef Zq (⟨rfl,rfl⟩)
theorem Zi8(n:Int):Spec Tryz.prog 73 [.map none,.int .i64 n] [] fun Γ v a=>v=.bool false∧a=Γ:=by
 refine Zbd Tryz.func73 rfl Tryz.ntmps73 fun w0 Γ=>Zsh (ZY 8 (Zv (Qp4 Tryz.underlying81 Tryz.underlying3 Tryz.Q2q.h rfl rfl rfl) (ZY 3 (Zp (S.alloc Tryz.Q2s.h rfl ?_)))));intro b;refine Zp (Zs ef ef (cs':=[]) ef (ZY 8 ?_));exact Zf ef Zq (⟨rfl,rfl⟩)
theorem Qnw(b:Option Nat)(s:Option (List Nat))(n:Nat):Spec Tryz.prog 73 [.map b,.int .i64 (n:Int)] [Vp b s] fun Γ v c=>v=.bool (decide (n∈s.getD []))∧c=Vp b s::Γ:=by
 cases b with
 | none=>
  cases s with
  | none=>exact fun Γ w a=>Zi8 n (Vp none none::Γ) w a |>.mono fun e d h=>h
  | some s=>exact fun Γ w a=>absurd a.Ze3 Q2
 | some b=>
  cases s with
  | none=>exact fun Γ w a=>absurd a.Ze3 Q2
  | some s=>exact Qrd b s n
theorem Qr0(b:Nat)(s:List Nat)(n:Nat):Spec Tryz.prog 38 [.map (some b),.int .i64 (n:Int)] [Qz b .i64 (Vo s)] fun Γ _ a=>a=Qz b .i64 (Vo (Xm s n))::Γ:=by
 refine Zbd Tryz.func38 rfl Tryz.ntmps38 fun w0 Γ=>Zsh (ZY 3 ?_);refine Zv (Ye (pvs:=[]) [] Tryz.Q2s.h Tryz.Zld.h trivial rfl) (Zp (S.mapUpdate Tryz.underlying81 Tryz.underlying3 rfl rfl rfl rfl ?_));rw[Q3j];refine Zy ?_;exact Zfn ef Zq (rfl)
theorem Bp(b:Nat)(st:Br)(c jb d:Nat)(ov e f mv:SV)(sb:Option Nat)(n:Nat)(x:Nt)(os:List Od)(k:ov.n=os.length)(m:os.length≤1000000):Spec Tryz.prog 74 [pt b,.int .i64 (n:Int),.agg (ntC x SV.nil).toArray] [blk b 84 (bC st c jb d ov e f mv sb).toArray,own ov 97 14 (os.flatMap odC)] fun Γ _ j=>
  ∃a:SV,a.n=(os++[(n,x)]).length∧j=blk b 84 (bC st c jb d a e f mv sb).toArray::own a 97 14 ((os++[(n,x)]).flatMap odC)::Γ:=by
 refine Zbd Tryz.func74 rfl Tryz.ntmps74 fun w0 Γ=>Zsh ?_;have h:(os++[((n,x):Od)]).length=os.length+1:=Q2
 refine ZY 2 (Zp (S.box (cs:=[_,_,_,_,_,_,_,_,_,_,_,_,_]) rfl rfl rfl ?_));intro l;refine Zy ?_;refine Zd ([blk l 72 (ntC x SV.nil).toArray,blk b 84 (bC st c jb d ov e f mv sb).toArray]) [12] (Zra 0 8) (ZY 7 ?_);refine Zw ef (Ye (pvs:=[(_,_),(_,_)]) [_,_,_,_,_,_,_,_,_,_,_,_,_,_] Tryz.z97.h Tryz.p97.h ⟨⟨rfl,rfl⟩,⟨rfl,rfl⟩,trivial⟩ rfl) ?_;refine Z1 (i:=8) ef ef ?_;refine(S.buildSlice (pvs:=[(_,_)]) [_,_,_,_,_,_,_,_,_,_,_,_,_,_] Tryz.underlying37 Tryz.Q51.h rfl rfl ⟨⟨rfl,rfl⟩,trivial⟩ rfl rfl ?_);intro g;refine Zk [] ?_;refine Z1 (i:=9) ef ef ?_;refine(S.Z6 (s:=ov) (1) (odC (n,x)) Tryz.underlying37 Tryz.Q51.h rfl rfl rfl (Yb (b:=g) rfl (by unfold maxLen;omega)) (by first|rfl|exact Qw _) (⟨Qb,Qb⟩) rfl ?_);intro a o;refine Zk [10,11] (ZY 2 ?_);refine Z1 (i:=12) ef ef ?_;refine(S.store (cs':=[_,_,_,_,_,_,_,_,_,_,_,_,_,_,_,_,_,_]) Eo.h rfl rfl rfl rfl rfl ?_);refine ZL ([]) [] ?_;refine ZD ?_;rw[Wv odC os ((n,x):Od)];exact Zfn ef Zq (⟨a,Qb,rfl⟩)
end BN
theorem Ent.Q0g{q:Nat}{s:Option (List Nat)}{d:List Nat}(h:s=some d)(a:List Assn):Ent (Vp (some q) s::a) (Qz q .i64 (Vo d)::a):=by rw[h];exact Ent.refl _
theorem Ent.Qjn{q:Nat}{s:Option (List Nat)}{d:List Nat}(h:s=some d)(a:List Assn):Ent (Qz q .i64 (Vo d)::a) (Vp (some q) s::a):=by rw[h];exact Ent.refl _
namespace BN
theorem Qae(a:List Assn):Ent a (M6 none none::a):=fun h b=>⟨HL.emp,h,HL.J2 _,HL.Hm _,HL.le.refl _,trivial,b⟩
theorem Qbw(id:Nat)(a:List Assn):Ent a (Jw none id none::a):=fun h b=>⟨HL.emp,h,HL.J2 _,HL.Hm _,HL.le.refl _,trivial,b⟩
theorem Pt(m:Mx)(j:Nat):(Xj m j).2.R=m.R∧(Xj m j).2.N=m.N:=by
 unfold Xj;split <;> exact⟨rfl,rfl⟩
theorem Qgn{m:Mx}(a:W6 m)(j:Nat):W6 (Xj m j).2:=by
 unfold Xj
 split
 ·exact a.del j
 ·exact a
theorem Yu.mset{st:Br}(h:Yu st){m:Mx}(b:W6 m)(c:m.R=st.m.R)(d:m.N=st.m.N):Yu {st with m:=m}:=⟨by rw[c];exact h.R,by rw[d];exact h.N,b,h.Y4,fun x a=>h.Qu x a,h.Dk,h.q1,h.q2,h.g1,h.g2,h.now,h.fin,h.mem,h.C4⟩
theorem Yu.jset{st:Br}(h:Yu st){js:List Bj}(b:Wm js)(d:∀x∈js,JOk st.nodes x)(c:js.length≤1000):Yu {st with js:=js}:=⟨h.R,h.N,h.Fu,b,fun x a=>d x a,c,h.q1,h.q2,h.g1,h.g2,h.now,h.fin,h.mem,h.C4⟩
theorem Yu.oset{st:Br}(h:Yu st)(os:List Od):Yu {st with Qd:=os}:=⟨h.R,h.N,h.Fu,h.Y4,fun x a=>h.Qu x a,h.Dk,h.q1,h.q2,h.g1,h.g2,h.now,h.fin,h.mem,h.C4⟩
theorem Yu.dset{st:Br}(h:Yu st)(b:List Nat):Yu {st with done:=b}:=⟨h.R,h.N,h.Fu,h.Y4,fun x a=>h.Qu x a,h.Dk,h.q1,h.q2,h.g1,h.g2,h.now,h.fin,h.mem,h.C4⟩
theorem Z4{st:Br}(h:Yu st){x:Bj}(a:Qk st.js x.id=some x):st.set x=st:=by
 have:=Qzr h.Y4 a;show {st with js:=Xe st.js x}=st;rw[this]
abbrev anew(x:Bj):Bj:={id:=x.id,tier:=x.tier,k:=x.k,w:=x.w,state:=0,Qg:=x.Qg,work:=x.Qg,ver:=x.ver}
theorem JOk.anew{N:Nat}{x:Bj}(h:JOk N x):JOk N (anew x):=⟨h.P3,h.Rx,h.tier,h.k1,h.kn,h.w,h.cr,h.cr,List.Pairwise.nil,fun n f=>(by cases f),fun d a=>(by cases a),fun d a=>(by cases a),fun r c=>(by cases c),fun e=>absurd (show (0:Nat)=1 from e) Qp,fun s b=>(by cases b)⟩
theorem A9{st:Br}(h:Yu st){x:Bj}(a:JOk st.nodes x):Yu (Y6 st x):=by
 unfold Y6;have b:=h.mset (Qgn h.Fu x.id) (Pt _ _).1 (Pt _ _).2
 split
 ·split
  ·exact b.set (x:=BN.anew x) a.anew
  ·exact b.jset (js:=rmJ st.js x.id) (Zg3 h.Y4 _) (fun y c=>h.Qu y ((Y5.1 c).1)) (Up (Uw _ _) h.Dk)
 ·exact h.set a
theorem Gp(st:Br)(x:Bj):(Y6 st x).Qd=st.Qd∧(Y6 st x).Qf=st.Qf∧(Y6 st x).done=st.done∧(Y6 st x).nodes=st.nodes∧(Y6 st x).up=st.up:=by
 unfold Y6
 split
 ·split <;> exact⟨rfl,rfl,rfl,rfl,rfl⟩
 ·exact⟨rfl,rfl,rfl,rfl,rfl⟩
theorem Qnx(b:Nat)(st:Br)(ps:Nat→Nat)(x:Bj)(y:Qk st.js x.id=some x):Spec Tryz.prog 53 [pt b,pt (ps x.id)] [BP b st ps] fun p _ F=>F=BP b (Y6 st x) ps::p:=by
 refine Spec.J3 fun c=>?_;have A:=c.at_ y;cases n:x.Ql with
 | none=>
  have j:Y6 st x=st.set x:=by rw[Y6,n,Qe Q2]
  refine Zbd Tryz.func53 rfl Tryz.ntmps53 fun G p=>Zsh ?_;refine S.Uu b st ps x y fun k jb h ov f g mv sb l i s lb w rb r a z Yr t v=>?_;have B:w=none:=by have:=v.d;rw[n]at this;cases w with|none=>rfl|some q=>cases this
  subst B;refine ZY 7 (Zv (Hz Tryz.underlying81 rfl rfl) (ZY 8 (ZY 3 (S.Q0 b st ps k jb h ov f g mv sb l i x s lb none rb r z rfl (Yr x rfl) (a.set A) v ?_))));exact Zf ef Zq (by rw[j])
 | some d=>
  refine Zbd Tryz.func53 rfl Tryz.ntmps53 fun G p=>Zsh ?_;refine S.Uu b st ps x y fun k jb h ov f g mv sb l i s lb w rb r a z Yr t v=>?_;obtain⟨q,H⟩:∃q,w=some q:=by have:=v.d;rw[n]at this;cases w with|none=>cases this|some q=>exact⟨q,rfl⟩
  subst H;refine S.conv (Vp (some q) x.Ql) (Ent.Q0g n _) ?_;have I:=Al d;refine ZY 7 (Zv (Hz Tryz.underlying81 rfl rfl) (ZY 8 (Zy ?_)))
  refine Zj ef (fun E=>?_) (fun E=>?_)
  ·have j:Y6 st x=st.set x:=by rw[Y6,n,Qe (fun e=>by rw[Hb e]at E;exact absurd E Qp)]
   refine S.conv (Qz q .i64 (Vo d)) (Ent.Qjn n _) (Zy (S.Q0 b st ps k jb h ov f g mv sb l i x s lb (some q) rb r z rfl (Yr x rfl) (a.set A) v ?_));exact Zf ef Zq (by rw[j])
  ·have u:x.Ql=some []:=by rw[n];congr;exact Ae Qb
   have J:=c.mset (Qgn c.Fu x.id) (Pt _ _).1 (Pt _ _).2;refine ZY 2 ?_;refine Zd ([blk (ps x.id) 90 (bjC x s lb (some q) rb r).toArray,blk b 84 (bC st k jb h ov f g mv sb).toArray]) [] (Zra 0 9) (ZY 8 (Zy ?_));refine Z1 (i:=9) ef ef ?_;refine  (Zcp Ze (Qr7 h st.m x.id) ?_);refine Zk [] ?_;refine ZD (ZY 8 (Zy ?_))
   refine Zi ef (fun D=>?_) (fun D=>?_)
   ·have C:x.again=false:=by simpa using D
    have j:Y6 st x={st with m:=(Xj st.m x.id).2,js:=rmJ st.js x.id}:=by rw[Y6,Qh u,Qe (by rw[C];decide)]
    refine Zy ?_;refine Zd ([blk (ps x.id) 90 (bjC x s lb (some q) rb r).toArray,blk b 84 (bC st k jb h ov f g mv sb).toArray]) [] (Zra 0 9) (ZY 8 (Zy ?_));refine Z1 (i:=9) ef ef ?_;refine(S.Gz Tryz.underlying82 Tryz.underlying31 rfl rfl rfl ?_);refine Zk [] ?_;refine ZD (Zy ?_);have o:BF {st with m:=(Xj st.m x.id).2,js:=rmJ st.js x.id} ps ov f g mv sb (Ge (x.id:Int) l):=⟨by rw[←j];exact A9 c A,Zlp c.Y4 a.perm y,a.on,a.im,a.dn,a.mn,a.sn⟩;refine S.sub (bR b {st with m:=(Xj st.m x.id).2} ps k jb h ov f g mv sb (Ge (x.id:Int) l) i p) (S.Qs (Ent.ungone (st:=st) (st':={st with m:=(Xj st.m x.id).2,js:=rmJ st.js x.id}) t o p) ?_);exact Zf ef Zq (by rw[j])
   ·have C:x.again=true:=by simpa using D
    have j:Y6 st x=Br.set {st with m:=(Xj st.m x.id).2} (anew x):=by rw[Y6,Qh u,Qh C]
    refine ZY 2 ?_;refine Zd ([blk (ps x.id) 90 (bjC x s lb (some q) rb r).toArray]) [16] (Zra 0 16) (ZY 8 (ZY 6 ?_));refine Zw ef (Ye (pvs:=[(_,_),(_,_),(_,_)]) [_,_,_,_,_,_,_,_,_,_,_,_,_,_,_,_,_] Tryz.z90.h Tryz.p90.h ⟨⟨rfl,rfl⟩,⟨rfl,rfl⟩,⟨rfl,rfl⟩,trivial⟩ rfl) (Zy ?_);refine Z1 (i:=16) ef ef ?_;refine  (Zs ef ef (cs':=[_,_,_,_,_,_,_,_,_,_,_,_,_,_,_,_,_]) ef ?_);refine ZL ([]) [] ?_;refine ZD (ZY 7 ?_);have o:BF (Br.set {st with m:=(Xj st.m x.id).2} (anew x)) ps ov f g mv sb l:=⟨by rw[←j];exact A9 c A,by show l.Perm ((Xe st.js (anew x)).map (jE ps));rw[Qt0];exact a.perm,a.on,a.im,a.dn,a.mn,a.sn⟩;refine S.X7 (ps x.id) (bjC (anew x) SV.nil none none none none).toArray rfl ?_;refine S.Qs (show Ent _ (own SV.nil 3 1 (nds (anew x).at_)::_) from Ent.Xb 3 1) (S.Qs ((Ent.Qca _).trans ((Ent.Qca _).trans ((Qae _).trans (Qbw x.id _)))) (S.sub (jX (ps x.id) (anew x) SV.nil none none none none (bR b {st with m:=(Xj st.m x.id).2} ps k jb h ov f g mv sb l i p)) ?_));refine S.Q0 b {st with m:=(Xj st.m x.id).2} ps k jb h ov f g mv sb l i (anew x) SV.nil none none none none z rfl (Yr (anew x) rfl) o ⟨rfl,rfl,rfl,rfl,rfl⟩ ?_;exact Zfn ef Zq (by rw[j])
theorem Q3v{l:List Nat}{N:Nat}(h:l.Pairwise (· < ·))(c:∀n∈l,n<N):l.length≤N:=by
 have key:∀i,(a:i<l.length)→i≤l[i]:=by
  intro i;induction i with
  | zero=>intro _;exact Xq _
  | succ i b=>
   intro a;have f:=b Qb;have d:=Jy.1 h i (i+1) Qb a Qb;omega
 rcases Qsk l.length with e|e
 ·omega
 ·have f:=key (l.length-1) Qb;have d:=c _ (Qdf (show l.length-1<l.length by omega));omega
theorem Yu.Ra{st:Br}(h:Yu st):st.nodes≤16:=by rw[←h.N];exact h.Fu.Ra
theorem JOk.len{N:Nat}{x:Bj}(h:JOk N x):x.at_.length≤N:=Q3v h.Uy h.at_
theorem A7(st:Br){x y:Bj}(h:x.id=y.id):Y6 (st.set x) y=Y6 st y:=by
 unfold Y6 Br.set
 split
 ·split
  ·show ({st with m:=_,js:=Xe (Xe st.js x) _}:Br)=_;rw[Qf5 (x:=x) (y:=anew y) st.js h]
  ·show ({st with m:=_,js:=rmJ (Xe st.js x) y.id}:Br)=_;rw[←h,Za3]
 ·show ({st with js:=Xe (Xe st.js x) y}:Br)=_;rw[Qf5 (x:=x) (y:=y) st.js h]
theorem set_set(st:Br){x y:Bj}(h:x.id=y.id):(st.set x).set y=st.set y:=by
 unfold Br.set;show ({st with js:=Xe (Xe st.js x) y}:Br)=_;rw[Qf5 (x:=x) (y:=y) st.js h]
theorem Kd{x:Bj}{d:List Nat}(h:x.Ql=some d)(st:Br)(a:Bool):Wd st x a=Y6 st (W9 x a d):=by rw[Wd,h]
theorem Vj{x:Bj}(h:x.Ql=none)(st:Br)(a:Bool):Wd st x a=Y6 {st with Qd:=st.Qd++(J0 st x).map (Va x.id)} (W9 x a (J0 st x)):=by rw[Wd,h]
theorem drop_set(st:Br){x y:Bj}(h:x.id=y.id)(a:Bool):Wd (st.set x) y a=Wd st y a:=by
 cases b:y.Ql with
 | some d=>rw[Kd b,Kd b];exact A7 st h
 | none=>rw[Vj b,Vj b];exact A7 {st with Qd:=st.Qd++(J0 st y).map (Va y.id)} (x:=x) h
theorem Bu(st:Br){x:Bj}{z:Bj}(a:Qk st.js x.id=some z):Qk (st.set x).js x.id=some x:=by
 show Qk (Xe st.js x) x.id=some x;rw[Gb,Qh rfl,a];rfl
theorem JOk.W9{N:Nat}{x:Bj}(h:JOk N x)(a:Bool){b:List Nat}(f:b.Nodup):JOk N (W9 x a b):=⟨h.P3,h.Rx,h.tier,h.k1,h.kn,h.w,h.cr,h.cr,h.Uy,h.at_,fun d e=>(by cases e;exact f),h.lod,h.X4,fun e=>absurd (show (3:Nat)=1 from e) Qp,fun s c=>(by cases c)⟩
theorem Sb{N:Nat}{x:Bj}(h:JOk N x)(st:Br):(J0 st x).Nodup:=(h.Uy.imp fun h=>Qdn h).filter _
theorem Q21(st:Br)(x:Bj):(J0 st x).length≤x.at_.length:=Uw _ _
theorem Qrp{st:Br}(h:Yu st){x:Bj}(b:JOk st.nodes x)(a:Bool):Yu (Wd st x a):=by
 cases c:x.Ql with
 | some d=>rw[Kd c];exact A9 h (b.W9 a (b.drop d c))
 | none=>rw[Vj c];exact A9 (h.oset _) (x:=W9 x a (J0 st x)) (b.W9 a (Sb b st))
theorem Co(st:Br)(x:Bj)(a:Bool):(Wd st x a).Qd.length≤st.Qd.length+x.at_.length∧(Wd st x a).Qf=st.Qf∧(Wd st x a).done=st.done∧(Wd st x a).nodes=st.nodes∧(Wd st x a).up=st.up:=by
 cases h:x.Ql with
 | some d=>
  rw[Kd h];obtain⟨g,f,e,c,b⟩:=Gp st (W9 x a d);exact⟨by rw[g];omega,f,e,c,b⟩
 | none=>
  rw[Vj h];obtain⟨g,f,e,c,b⟩:=Gp {st with Qd:=st.Qd++(J0 st x).map (Va x.id)} (W9 x a (J0 st x));refine⟨?_,f,e,c,b⟩;rw[g,Yd,Qo];have:=Q21 st x;omega
theorem Qih(b:Nat)(st:Br)(ps:Nat→Nat)(x:Bj)(a:Bool)(Q:Qk st.js x.id=some x)(hl:st.Qd.length≤900000):Spec Tryz.prog 52 [pt b,pt (ps x.id),.bool a] [BP b st ps] fun A _ I=>I=BP b (Wd st x a) ps::A:=by
 refine Spec.J3 fun L=>?_;have O:=L.at_ Q;have hN:=L.Ra;have a5:=O.len;cases N:x.Ql with
 | some d=>
  refine Zbd Tryz.func52 rfl Tryz.ntmps52 fun w0 A=>Zsh ?_;refine S.Uu b st ps x Q fun B jb E ov F H mv sb l i o lb T rb J K Y Yr W G=>?_;obtain⟨q,hq⟩:∃q,T=some q:=by have:=G.d;rw[N]at this;cases T with|none=>cases this|some q=>exact⟨q,rfl⟩
  subst hq;obtain⟨c,g⟩:∃c:Bj,c=W9 x a d:=⟨_,rfl⟩;have Nv:JOk st.nodes c:=by rw[g];exact O.W9 a (O.drop d N)
  have t:c.id=x.id:=by rw[g]
  have M:Wd st x a=Y6 (st.set c) c:=by rw[A7 st rfl,Kd N,g]
  refine Zy ?_
  refine Zc (fun u w=>u=[(0,pt b),(1,pt (ps x.id)),(2,.bool a)]∧w=blk (ps x.id) 90 (bjC {x with again:=a&&!x.done} o lb (some q) rb J).toArray::own o 3 1 (nds x.at_)::Vp lb x.Xt::Vp (some q) x.Ql::M6 rb x.X4::Jw J x.id x.Xg::bR b st ps B jb E ov F H mv sb l i A) ?_ ?_
  ·refine ZY 4 ?_
   refine Zbb 10 ef (fun f=>?_) (fun f=>?_)
   ·refine ZY 8 (ZY 2 ?_);refine S.X7 (ps x.id) (bjC {x with again:=a&&!x.done} o lb (some q) rb J).toArray (by rw[f];rfl) ?_;exact ZM ⟨rfl,rfl⟩
   ·refine ZY 8 (ZY 2 ?_);refine S.X7 (ps x.id) (bjC {x with again:=a&&!x.done} o lb (some q) rb J).toArray (by rw[f];rfl) ?_;exact ZM ⟨rfl,rfl⟩
  ·rintro u w ⟨rfl,rfl⟩;refine ZY 8 (ZY 8 (ZY 8 (ZY 2 (Zv (Hz Tryz.underlying81 rfl rfl) (Zy (ZF ef (ZY 8 (ZY 4 ?_))))))));refine S.X7 (ps x.id) (bjC c o lb (some q) rb none).toArray (by rw[g];rfl) (S.Qs (Qbw x.id _) ?_);refine S.conv (Vp (some q) x.Ql) (show Ent _ (Vp (some q) c.Ql::_) by rw[g,N];exact Ent.refl _) ?_;refine S.sub (jX (ps x.id) c o lb (some q) rb none (bR b st ps B jb E ov F H mv sb l i A)) (e:=by subst g;infer_instance) ?_;refine S.Q0 b st ps B jb E ov F H mv sb l i c o lb (some q) rb none Y t (Yr c t) (K.set Nv) ⟨by rw[g];exact G.an,by rw[g];exact G.l,by rw[g];rfl,by rw[g];exact G.r,by rw[g];rfl⟩ ?_;refine Zp (Zc1 Ze ((t ▸ Qnx b (st.set c) ps c (Bu st (by rw[t];exact Q)):Spec Tryz.prog 53 [pt b,pt (ps x.id)] [BP b (st.set c) ps] fun A _ I=>I=BP b (Y6 (st.set c) c) ps::A)) ?_);rintro v I rfl;refine Zy ?_;exact Zfn ef Zq (by rw[M])
 | none=>
  refine Zbd Tryz.func52 rfl Tryz.ntmps52 fun w0 A=>Zsh ?_;refine S.Uu b st ps x Q fun B jb E ov F H mv sb l i o lb T rb J K Y Yr W G=>?_;have a1:T=none:=by have:=G.d;rw[N]at this;cases T with|none=>rfl|some q=>cases this
  subst a1;have a4:=G.an;refine Zy ?_
  refine Zc (fun u w=>u=[(0,pt b),(1,pt (ps x.id)),(2,.bool a)]∧w=blk (ps x.id) 90 (bjC {x with again:=a&&!x.done} o lb none rb J).toArray::own o 3 1 (nds x.at_)::Vp lb x.Xt::M6 rb x.X4::bR b st ps B jb E ov F H mv sb l i A) ?_ ?_
  ·refine ZY 4 ?_
   refine Zbb 10 ef (fun f=>?_) (fun f=>?_)
   ·refine ZY 8 (ZY 2 ?_);refine S.X7 (ps x.id) (bjC {x with again:=a&&!x.done} o lb none rb J).toArray (by rw[f];rfl) ?_;exact ZM ⟨rfl,rfl⟩
   ·refine ZY 8 (ZY 2 ?_);refine S.X7 (ps x.id) (bjC {x with again:=a&&!x.done} o lb none rb J).toArray (by rw[f];rfl) ?_;exact ZM ⟨rfl,rfl⟩
  ·rintro u w ⟨rfl,rfl⟩;refine ZY 8 (ZY 8 (ZY 8 (ZY 2 (Zv (Hz Tryz.underlying81 rfl rfl) (Zy (ZT ef (ZY 3 (Zp (S.makeMap .i64 rfl ?_)))))))));intro p;refine S.conv (Qz p .i64 []) (show Ent _ (Qz p .i64 (Vo [])::_) from Ent.refl _) (ZY 8 (ZY 3 (S.X7 (ps x.id) (bjC {x with again:=a&&!x.done,work:=x.Qg} o lb (some p) rb none).toArray rfl (ZY 3 ?_))));refine Zl (fun k u w=>∃(e:Nat) (r:List Nat) (os:List Od) (s:SV),k=x.at_.length-e∧e≤x.at_.length∧r=(x.at_.take e).filter (fun n=>decide (n∈st.up))∧os=st.Qd++r.map (Va x.id)∧s.n=os.length∧u=[(0,pt b),(1,pt (ps x.id)),(42,o.v),(43,.int .i64 (o.n:Int)),(44,.int .i64 (e:Int))] ∧   w=blk (ps x.id) 90 (bjC {x with again:=a&&!x.done,work:=x.Qg} o lb (some p) rb none).toArray::Qz p .i64 (Vo r)::own o 3 1 (nds x.at_)::Vp lb x.Xt::M6 rb x.X4::blk b 84 (bC st B jb E s F H mv sb).toArray::Qz B .i64 (Vo st.up)::Qz jb .u32 l::jT ps st.js i::jD ps st.js i::MI E st.m::own s 97 14 (os.flatMap odC)::imgs F st.Qf::own H 31 1 (Yp st.done)::own mv 31 1 (Yp st.members)::Vp sb st.stops::A) (m:=_) (⟨0,[],st.Qd,ov,rfl,Qb,rfl,Q2,K.on,rfl,rfl⟩) ?_;rintro k u w ⟨e,r,os,s,hk,he,z,C,U,rfl,rfl⟩
   have a3:r.length≤x.at_.length:=by
    rw[z];exact Up (Uw _ _) (by rw[V9];omega)
   have a2:os.length≤900016:=by rw[C,Yd,Qo];omega
   refine ZY 5 ?_
   refine Zj ef (fun h2=>?_) (fun h2=>?_)
   ·refine S.Q7 o Qb fun ab ao R _ _ _=>?_;obtain⟨y,V⟩:=Xs (show e<x.at_.length by omega);have Fh:x.at_.take (e+1)=x.at_.take e++[y]:=by rw[X2,V];rfl
    refine ZY 5 (Zv (Zx (e) ef (R) ef Qb) ?_);refine Zv (Zo (o) (e) ef (R) (by rw[Q8,V];rfl)) ?_;refine ZY 8 (Zy (Zp (Zcp Ze (Qrd B st.up y) (Zy ?_))))
    refine Zj ef (fun h3=>?_) (fun h3=>?_)
    ·have X:y∉r:=fun hm=>by
      rw[z]at hm;obtain⟨j,hj,e2⟩:=Q9e.1 (Y5.1 hm).1;obtain⟨a0,e3⟩:=Yz.1 V;have:=Jy.1 O.Uy j e Qb a0 Qb;omega
     have D:r++[y]=(x.at_.take (e+1)).filter (fun n=>decide (n∈st.up)):=by rw[Fh,Gu,←z];simp[h3]
     have A5:os++[(y,{kind:=10,Qu:=x.id})]=st.Qd++(r++[y]).map (Va x.id):=by rw[C,Vc,Wb];rfl
     refine ZY 7 (Zp (Zc1 Ze (Qr0 p r y) ?_));rintro v I rfl;rw[show Xm r y=r++[y] from Qe X];refine ZY 8 (Zy ?_);refine Zv (Ye (pvs:=[(_,_),(_,_)]) [_,_,_,_,_,_,_,_,_,_,_,_,_] Tryz.z72.h Tryz.p72.h ⟨⟨rfl,rfl⟩,⟨rfl,rfl⟩,trivial⟩ rfl) (Zp (Zc1 Ze (Bp b st B jb E s F H mv sb y {kind:=10,Qu:=x.id} os U Qb) ?_));rintro v I ⟨P,N6,rfl⟩;refine ZY 2 (Zv (Za ef ef) (ZY 2 ?_));first|exact ZX (k-1) ⟨e+1,r++[y],os++[(y,{kind:=10,Qu:=x.id})],P,Qb,Qb,D,A5,N6,rfl,rfl⟩ Qb|exact ZX (k-1) ⟨e+1,r,os,s,Qb,Qb,D,C,U,rfl,rfl⟩ Qb
    ·have D:r=(x.at_.take (e+1)).filter (fun n=>decide (n∈st.up)):=by rw[Fh,Gu,←z];simp[h3]
     refine ZY 2 (Zv (Za ef ef) (ZY 2 ?_));first|exact ZX (k-1) ⟨e+1,r++[y],os++[(y,{kind:=10,Qu:=x.id})],P,Qb,Qb,D,A5,N6,rfl,rfl⟩ Qb|exact ZX (k-1) ⟨e+1,r,os,s,Qb,Qb,D,C,U,rfl,rfl⟩ Qb
   ·have Z:e=x.at_.length:=Qb
    rw[Z,Wh]at z;obtain⟨c,g⟩:∃c:Bj,c=W9 x a r:=⟨_,rfl⟩;have C9:r.Nodup:=by rw[z];exact(O.Uy.imp fun h=>Qdn h).filter _
    have Nv:JOk st.nodes c:=by rw[g];exact O.W9 a C9
    have t:c.id=x.id:=by rw[g]
    have M:Wd st x a=Y6 (Br.set {st with Qd:=os} c) c:=by
     rw[A7 _ rfl,Vj N,g,C,z];rfl
    refine ZY 8 (ZY 4 ?_);refine S.X7 (ps x.id) (bjC c o lb (some p) rb none).toArray (by rw[g];rfl) (S.Qs (Qbw x.id _) ?_);refine S.conv (Qz p .i64 (Vo r)) (Ent.Qjn (show c.Ql=some r by rw[g]) _) ?_;refine S.sub (jX (ps x.id) c o lb (some p) rb none (bR b {st with Qd:=os} ps B jb E s F H mv sb l i A)) (e:=by subst g;infer_instance) ?_;refine S.Q0 b {st with Qd:=os} ps B jb E s F H mv sb l i c o lb (some p) rb none Y t (Yr c t) (BF.set (st:={st with Qd:=os}) ⟨L.oset os,K.perm,U,K.im,K.dn,K.mn,K.sn⟩ Nv) ⟨by rw[g];exact G.an,by rw[g];exact G.l,by rw[g];rfl,by rw[g];exact G.r,by rw[g];rfl⟩ ?_;refine Zp (Zc1 Ze ((t ▸ Qnx b (Br.set {st with Qd:=os} c) ps c (Bu {st with Qd:=os} (by rw[t];exact Q)):Spec Tryz.prog 53 [pt b,pt (ps x.id)] [BP b (Br.set {st with Qd:=os} c) ps] fun A _ I=>I=BP b (Y6 (Br.set {st with Qd:=os} c) c) ps::A)) ?_);rintro v I rfl;refine Zy ?_;exact Zfn ef Zq (by rw[M])
theorem JOk.dn{N:Nat}{x:Bj}(h:JOk N x):JOk N {x with done:=true}:=⟨h.P3,h.Rx,h.tier,h.k1,h.kn,h.w,h.cr,h.wk,h.Uy,h.at_,h.drop,h.lod,h.X4,h.ld,h.svl⟩
theorem Qnz(st:Br)(x:Bj):(Yj st x).Qd.length≤st.Qd.length+x.at_.length∧(Yj st x).Qf=st.Qf∧(Yj st x).done.length≤st.done.length+1:=by
 unfold Yj
 split
 ·exact⟨by show st.Qd.length≤_;omega,rfl,by show st.done.length≤_;omega⟩
 ·obtain⟨c,b,a,_⟩:=Co {st with done:=st.done++[x.id]} {x with done:=true} false;exact⟨c,b,by rw[a];simp⟩
theorem Qia(st:Br){x y:Bj}(h:x.id=y.id):Yj (st.set x) y=Yj st y:=by
 unfold Yj
 split
 ·exact set_set st h
 ·exact drop_set {st with done:=st.done++[y.id]} (x:=x) (y:={y with done:=true}) h false
theorem Qib(b:Nat)(st:Br)(ps:Nat→Nat)(x:Bj)(D:Qk st.js x.id=some x)(L:st.Qd.length≤900000)(Q:st.done.length≤900000):Spec Tryz.prog 39 [pt b,pt (ps x.id)] [BP b st ps] fun o _ A=>A=BP b (Yj st x) ps::o:=by
 refine Spec.J3 fun t=>?_;have I:=t.at_ D;refine Zbd Tryz.func39 rfl Tryz.ntmps39 fun P o=>Zsh ?_;refine S.Uu b st ps x D fun p jb q ov r B mv sb l i n lb m rb g f E Yr K j=>?_;have R:=f.dn;have M:(st.done++[x.id]).length=st.done.length+1:=Q2
 obtain⟨a,z⟩:∃a:Bj,a={x with done:=true}:=⟨_,rfl⟩;have O:JOk st.nodes a:=by rw[z];exact I.dn
 have c:a.id=x.id:=by rw[z]
 have F:JF a n lb m rb g:=by rw[z];exact⟨j.an,j.l,j.d,j.r,j.s⟩
 have u:Yp st.done++[.int .u32 (x.id:Int)]=Yp (st.done++[x.id]):=Q2
 have C:Qk (Br.set {st with done:=st.done++[x.id]} a).js a.id=some a:=Bu {st with done:=st.done++[x.id]} (by rw[c];exact D)
 have J:Spec Tryz.prog 52 [pt b,pt (ps x.id),.bool false] [BP b (Br.set {st with done:=st.done++[x.id]} a) ps] fun o _ A=>A=BP b (Wd (Br.set {st with done:=st.done++[x.id]} a) a false) ps::o:=by
  rw[←c];exact Qih b _ ps a false C L
 refine ZY 2 ?_;refine Zd ([blk (ps x.id) 90 (bjC x n lb m rb g).toArray]) [] (Zra 0 12) (ZY 8 (ZY 4 ?_))
 refine Zb 15 ef (fun d=>?_) (fun d=>?_)
 ·have w:Yj st x=st.set x:=by rw[Yj,Qh (.inl Qb)]
  refine Zr (Zra 12 5) (ZY 5 ?_);refine ZD (ZY 2 (S.Q0 b st ps p jb q ov r B mv sb l i x n lb m rb g E rfl (Yr x rfl) (f.set I) j ?_));exact Zf ef Zq (by rw[w])
 ·refine Zr (Zra 12 5) (ZY 5 ?_);refine ZD ?_
  refine Zi ef (fun G=>?_) (fun G=>?_)
  ·have w:Yj st x=st.set x:=by rw[Yj,Qh (.inr G)]
   refine Zy (S.Q0 b st ps p jb q ov r B mv sb l i x n lb m rb g E rfl (Yr x rfl) (f.set I) j ?_);exact Zf ef Zq (by rw[w])
  ·have w:Yj st x=Wd {st with done:=st.done++[x.id]} a false:=by rw[Yj,Qe (by rw[G];intro h;rcases h with h|h;omega;cases h),z]
   refine ZY 8 (Zy ?_);refine Zd ([blk (ps x.id) 90 (bjC {x with done:=true} n lb m rb g).toArray,blk b 84 (bC st p jb q ov r B mv sb).toArray]) [14] (Zra 0 10) (ZY 8 (ZY 2 ?_));refine Z1 (i:=10) ef ef ?_;refine(S.buildSlice (pvs:=[(_,_)]) [_] Tryz.underlying53 Tryz.H9.h rfl rfl ⟨⟨rfl,rfl⟩,trivial⟩ rfl rfl ?_);intro H;refine Zk [] ?_;refine Z1 (i:=11) ef ef ?_;refine(S.Z6 (s:=B) (1) ([.int .u32 (x.id:Int)]) Tryz.underlying53 Tryz.H9.h rfl rfl rfl (Yb (b:=H) rfl (by unfold maxLen;omega)) (by first|rfl|exact Qw _) (⟨Qb,Qb⟩) rfl ?_);intro k N;rw[u];refine Zk [12,13] (ZY 2 ?_);refine Z1 (i:=14) ef ef ?_;refine(S.store (cs':=[_,_,_,_,_,_,_,_,_,_,_,_,_,_,_,_,_,_]) Eo.h rfl rfl rfl rfl rfl ?_);refine ZL ([]) [] ?_;refine ZD (ZY 3 ?_);refine S.sub (jX (ps x.id) a n lb m rb g (bR b {st with done:=st.done++[x.id]} ps p jb q ov r k mv sb l i o)) (e:=by subst z;infer_instance) ?_;refine S.Q0 b {st with done:=st.done++[x.id]} ps p jb q ov r k mv sb l i a n lb m rb g E c (Yr a c) (BF.set (st:={st with done:=st.done++[x.id]}) ⟨t.dset _,f.perm,f.on,f.im,by show k.n=(st.done++[x.id]).length;omega,f.mn,f.sn⟩ O) F (Zp (Zc1 Ze (J) ?_));rintro v A rfl;rw[drop_set {st with done:=st.done++[x.id]} (x:=a) (y:=a) rfl];refine Zy ?_;exact Zfn ef Zq (by rw[w])
theorem Lo(b:Nat)(st:Br)(ps:Nat→Nat)(n:Int)(up:Bool):Spec Tryz.prog 37 [pt b,.int .i64 n,.bool up] [BP b st ps] fun k v p=>v=.int .i64 (Vh st n up)∧p=BP b st ps::k:=by
 refine Zbd Tryz.func37 rfl Tryz.ntmps37 fun q k=>Zsh ?_;refine S.W5 b st ps fun g jb e ov h j mv sb l m=>(ZY 8 (ZY 4 (ZF ef (Zy ?_))))
 refine Zc (fun c d=>c=[(0,pt b),(1,.int .i64 n),(2,.bool up),(10,.bool (decide (n<0∨(st.nodes:Int)≤n)))]∧d=bX b st ps g jb e ov h j mv sb l k) ?_ ?_
 ·refine ZY 4 ?_
  refine Zb 13 ef (fun a=>?_) (fun a=>?_)
  ·refine ZY 8 (ZY 2 ?_);first|(rw[show decide (n<0∨(st.nodes:Int)≤n)=true from Zh (.inl a)];exact S.meet ⟨rfl,rfl⟩ ⟨rfl,rfl,rfl,rfl,trivial⟩ Sub.Qs)|(rw[show decide (n<0∨(st.nodes:Int)≤n)=decide ((st.nodes:Int)≤n) from Wn.2 Qb];exact S.meet ⟨rfl,rfl⟩ ⟨rfl,rfl,rfl,rfl,trivial⟩ Sub.Qs)
  ·refine ZY 8 (ZY 2 ?_);first|(rw[show decide (n<0∨(st.nodes:Int)≤n)=true from Zh (.inl a)];exact S.meet ⟨rfl,rfl⟩ ⟨rfl,rfl,rfl,rfl,trivial⟩ Sub.Qs)|(rw[show decide (n<0∨(st.nodes:Int)≤n)=decide ((st.nodes:Int)≤n) from Wn.2 Qb];exact S.meet ⟨rfl,rfl⟩ ⟨rfl,rfl,rfl,rfl,trivial⟩ Sub.Qs)
 ·rintro c d ⟨rfl,rfl⟩
  refine Zj ef (fun i=>?_) (fun i=>?_)
  ·have f:Vh st n up=1:=by rw[Vh,Qh i]
   refine ZY 5 (S.Yk b st ps g jb e ov h j mv sb l m ?_);exact Zf ef Zq (⟨by rw[f];rfl,rfl⟩)
  ·refine ZY 7 (Zp (Zcp Ze (Qoe e st.m n) (ZY 4 ?_)))
   refine Zi ef (fun o=>?_) (fun o=>?_)
   ·have f:Vh st n up=14:=by rw[Vh,Qe i,Qh (by simpa using o)]
    refine ZY 5 (S.Yk b st ps g jb e ov h j mv sb l m ?_);exact Zf ef Zq (⟨by rw[f];rfl,rfl⟩)
   ·have f:Vh st n up=0:=by rw[Vh,Qe i,Qe (by simpa using o)]
    refine ZY 6 (S.Yk b st ps g jb e ov h j mv sb l m ?_);exact Zf ef Zq (⟨by rw[f];rfl,rfl⟩)
theorem Qe6{st:Br}{n:Int}{up:Bool}(h:Vh st n up=0):0≤n∧n<st.nodes:=by
 unfold Vh at h
 split at h
 ·cases h
 ·omega
theorem Qbq(m:Mx)(z:Int)(on:Bool):(upR m z on).2.R=m.R∧(upR m z on).2.N=m.N:=by
 unfold upR;split <;> exact⟨rfl,rfl⟩
theorem Ql5{m:Mx}(a:W6 m)(z:Int)(on:Bool):W6 (upR m z on).2:=by
 unfold upR
 split
 ·rename_i h;have:=Ue.1 h;exact a.Fw Qb on
 ·exact a
theorem Yu.uset{st:Br}(h:Yu st)(u:List Nat):Yu {st with up:=u}:=⟨h.R,h.N,h.Fu,h.Y4,h.Qu,h.Dk,h.q1,h.q2,h.g1,h.g2,h.now,h.fin,h.mem,h.C4⟩
theorem Q93{st:Br}(h:Yu st)(n:Int):Yu (Ja st n).2:=by
 unfold Ja
 split
 ·exact h
 ·exact(h.uset (Xm st.up n.toNat)).mset (Ql5 h.Fu n true) (Qbq _ _ _).1 (Qbq _ _ _).2
theorem Q14(b:Nat)(st:Br)(ps:Nat→Nat)(n:Int):Spec Tryz.prog 12 [pt b,.int .i64 n] [BP b st ps] fun f v i=>v=.int .i64 (Ja st n).1∧i=BP b (Ja st n).2 ps::f:=by
 refine Spec.J3 fun d=>?_;refine Zbd Tryz.func12 rfl Tryz.ntmps12 fun p f=>Zsh (ZY 8 (Zy (Zp (Zcp Ze (Lo b st ps n false) (ZY 7 ?_)))))
 refine Zj ef (fun e=>?_) (fun e=>?_)
 ·have c:Ja st n=(Vh st n false,st):=by rw[Ja,Qh e]
  refine ZY 6 ?_;exact Zf ef Zq (⟨by rw[c];rfl,by rw[c]⟩)
 ·have q:=Qe6 (W7 e);have c:Ja st n=((upR st.m n true).1,{st with up:=Xm st.up n.toNat,m:=(upR st.m n true).2}):=by rw[Ja,Qe e]
  obtain⟨k,rfl⟩:∃k:Nat,n=k:=⟨n.toNat,Qb⟩;refine S.W5 b st ps fun g jb h ov j o mv sb l a=>(ZY 8 (Zp (Zc1 Ze (Qr0 g st.up k) ?_)));rintro v i rfl;refine ZY 8 (Zp (Zcp Ze (Go.Proofs.YtdackcibfkkniaaGreatDoor.Q14 h st.m k true) (ZY 3 (S.sub (bX b {st with up:=Xm st.up k,m:=(upR st.m k true).2} ps g jb h ov j o mv sb l f) ?_))));refine S.Yk b {st with up:=Xm st.up k,m:=(upR st.m k true).2} ps g jb h ov j o mv sb l ⟨(d.uset (Xm st.up k)).mset (Ql5 d.Fu k true) (Qbq _ _ _).1 (Qbq _ _ _).2,a.perm,a.on,a.im,a.dn,a.mn,a.sn⟩ ?_;exact Zf ef Zq (⟨by rw[c];rfl,by rw[c,K0]⟩)
end BN
theorem Zbc{i:Type}{P:Program}{g:Operand}{p:Tmp}{assign body:Code}{Q:Exit→Act→World→Prop}{a:Act}{w:World}{o:WM false}{u:FuncId}{S T:List Value}{k:i→Value}{G:List i→i→Prop}{E:List i→Prop}{pre:List Assn}
  (hg:a.eval g=.func (.func u) S.toArray T.toArray) (L:Jj P u=true) (a5:Qvh P u S T k G E pre) (I:List i→List Assn) {Γ:List Assn} (hs:Sat w (pre++(I []++Γ))) (hx:Ext o w)
  (A:i→Nat→Act→Prop) (c:i→Nat→Assn) (j:∀(l:Nat) (x:i) (W:World) (Δ:List Assn) (K:Act→World→Prop),Sat W Δ→Ext o W→(∀b y n,A x b y→Sat n (c x b::Δ)→Ext o n→K y n)→assign.wpIn (Fence.wide.inRound l) 0 P (Exit.then K (fun _ _ _=>False)) {tmps:=a.tmps.setIfInBounds p (k x),defers:=[]} W)
  (a6:∀(l:Nat) (done:List i) (x:i) (b:Nat) (y:Act) (m:List Assn) (W:World),G done x→A x b y→Sat W (c x b::(I done++m))→Ext o W →
   body.wpIn (Fence.wide.inRound l) 0 P (fun e _ n=>e=.normal∧Sat n (I (done++[x])++m)∧Ext o n) y W)
  (L3:∀(D:Nat) (xs:List i) (W:World),E xs→Sat W (Cr D::(pre++(I xs++Γ)))→Ext o W→Q .normal {a with defers:={target:=.collected D,args:=#[]}::a.defers} W) :
  (Code.rangeFunc g #[p] assign body).wpIn Fence.wide 0 P Q a w:=by
 refine wpIn_rangeFunc fun fn _=>?_;obtain⟨rec,z⟩:∃rec:LoopState→Loop,rec=fun st=>{state:=st,pending:=none,fn,tmps:=a.tmps,params:=#[p],assign,body,defers:=w.heap.size}:=⟨_,rfl⟩;obtain⟨q,t⟩:∃q,(w.alloc (.deferred (some []))).alloc (.loop (rec .ready))=q:=⟨_,rfl⟩
 have N7:Sat q (J1 (w.heap.size+1) (rec .ready)::Cr w.heap.size::(pre++(I []++Γ))):=by
  have h1:=hs.newObj (.deferred (some [])) Cr fun b=>HL.Vf _ _;have R:=h1.newObj (.loop (rec .ready)) (fun b=>J1 b (rec .ready)) fun b=>HL.Vf _ _;rw[World.size_alloc,t]at R;exact R
 have Y3:Ext o q:=by rw[←t];exact(hx.alloc _).alloc _
 refine⟨w.heap.size+1,[{target:=.collected w.heap.size,args:=#[]}],q,{target:=.fn (.func u) T.toArray,args:=S.toArray++#[.func (.yield (w.heap.size+1)) #[] #[]]},q,u,
  S.toArray++#[.func (.yield (w.heap.size+1)) #[] #[]]++T.toArray,q,?_,?_,fun _ _=>trivial,?_,fun h=>by simp[Fence.wide]at h,?_⟩
 ·rw[←t,z];exact run_enterLoop_outer _ _ _ _ _
 ·simp only[resolve,hg];simp[go_sem]
 ·have a1:∀args w,(callFunc u args).run P w=.ok (.enter u args) w:=fun args w=>by
   unfold Jj at L
   split at L
   ·rename_i f hf;simp only[Z5,Qbi,Mj]at L;obtain⟨h1,R⟩:=L;have a4:¬f.body=none:=by cases hb:f.body <;> simp[hb]at R ⊢
    simp[callFunc,hf,h1,a4]
   ·cases L
  simp[invoke,go_sem,a1]
 ·have J:∀(st:LoopState) (done:List i),Ent (J1 (w.heap.size+1) (rec st)::Cr w.heap.size::(pre++(I done++Γ))) (pre++((J1 (w.heap.size+1) (rec st)::I done)++(Cr w.heap.size::Γ))):=fun st done=>
   ((Ent.cons _ (Ent.cons _ (Ent.pack pre _))).trans ((Ent.cons _ (Ent.swap _ _ _)).trans (Ent.swap _ _ _))).trans ((Ent.cons (stars pre) ((Ent.cons _ ((Ent.cons _ (Ent.pack (I done) Γ)).trans ((Ent.swap _ _ _).trans (Ent.unpack (I done) _)))))).trans (Ent.unpack pre _))
  have a7:∀(st:LoopState) (done:List i),Ent (pre++((J1 (w.heap.size+1) (rec st)::I done)++(Cr w.heap.size::Γ))) (J1 (w.heap.size+1) (rec st)::Cr w.heap.size::(pre++(I done++Γ))):=fun st done=>
   (Ent.pack pre _).trans ((Ent.cons _ (Ent.cons _ ((Ent.pack (I done) _).trans ((Ent.swap _ _ _).trans (Ent.cons _ (Ent.unpack (I done) Γ)))))).trans ((Ent.swap _ _ _).trans (Ent.cons _ ((Ent.swap _ _ _).trans (Ent.cons _ (Ent.unpack pre _))))))
  have a8:=a5 (w.heap.size+1) o (fun done=>J1 (w.heap.size+1) (rec .ready)::I done) ?_ (Cr w.heap.size::Γ) q (N7.Qs (J _ _)) Y3
  ·obtain⟨a9,a2⟩:=a8;refine⟨trivial,fun fr hr=>?_⟩;obtain⟨e,w',f',⟨⟨v,rfl⟩,xs,hE,Y,V⟩,st,rest⟩:=a2 fr hr;refine⟨_,w',f',?_,st,rest⟩;have Da:=Y.Qs (a7 _ _);have Bt:=Da.Sl;have d:=run_endLoop (P:=P) Bt (by rw[z];simp);have hp:(rec .ready).pending=none:=by rw[z]
   obtain⟨W2,M⟩:∃W2,W2=w'.putObj (w.heap.size+1) (.loop {rec .ready with state:=.exhausted}):=⟨_,rfl⟩;rw[←M,hp]at d;refine⟨none,W2,d,?_⟩;rw[M]
   refine L3 w.heap.size xs _ hE ?_ ?_
   ·have:=Da.Pv ({rec .ready with state:=.exhausted});exact(this.Qs (Ent.drop _ _))
   ·exact V.setObj _ _
  ·intro done x m W N4 O H;have hl:=(show Sat W (J1 (w.heap.size+1) (rec .ready)::(I done++m)) from O).Sl
   have hy:(Instr.yield (w.heap.size+1) #[k x]).run P W=.ok (.round (w.heap.size+1) fn (a.tmps.setIfInBounds p (k x)) assign body) W:=by
    have:=run_yield (P:=P) (args:=#[k x]) hl (by rw[z];rfl);rw[z]at this
    simpa using this
   refine⟨fn,_,assign,body,hy,roundIn_of_wpIn (F:=Fence.wide) trivial ?_⟩;refine j (w.heap.size+1) x W _ _ O H fun b y n hA r s=>?_;have N:Sat n (J1 (w.heap.size+1) (rec .ready)::(c x b::(I done++m))):=r.Qs (Ent.swap _ _ _);have a0:=N.Sl;have X:=N.Pv {rec .ready with state:=.busy};refine⟨_,run_beginRound a0 (by rw[z]),?_⟩;have B:Sat (n.putObj (w.heap.size+1) (.loop {rec .ready with state:=.busy})) (c x b::(I done++(J1 (w.heap.size+1) {rec .ready with state:=.busy}::m))):=X.Qs ((Ent.swap _ _ _).trans (Ent.cons _ (((Ent.cons _ (Ent.pack (I done) m)).trans (Ent.swap _ _ _)).trans (Ent.unpack (I done) _))));refine wpIn_mono (a6 (w.heap.size+1) done x b y _ _ N4 hA B (s.setObj _ _)) ?_;rintro e a3 W3 ⟨rfl,J8,U⟩;have C:Sat W3 (J1 (w.heap.size+1) {rec .ready with state:=.busy}::(I (done++[x])++m)):=J8.Qs ((Ent.pack (I (done++[x])) _).trans ((Ent.swap _ _ _).trans (Ent.cons _ (Ent.unpack (I (done++[x])) m))));have Z:=C.Sl;have d:=run_endRound (P:=P) none Z;refine⟨_,_,d,rfl,?_,U.setObj _ _⟩;have:=C.Pv ({rec .ready with state:=.ready});rw[z]at this ⊢;exact this
section
variable {P:Program}{n:Nat}{ρ:Env}{Γ:List Assn}{Q:Exit→Act→World→Prop}
theorem S.Zbe{f:Type}{g:Operand}{p q:Nat}{id:Nat}{i:Code}{h:WM false}{A:FuncId}{fs cs:List Value}{enc:f→Value}{G:List f→f→Prop}{E:List f→Prop}{pre Γ':List Assn}{J H:TypeId}{s1 s2:String}{k j:Array Edge}{T:TypeId}(cells:f→List Value)
  (R:ev ρ g=some (.func (.func A) fs.toArray cs.toArray)) (U:Jj P A=true) (C:Qvh P A fs cs enc G E pre) (I:List f→List Assn) (X:Ent Γ (pre++(I []++Γ'))) (O:Nat.blt p n=true)
  (B:∀(h:WM false) (l:Nat) (x:f) (r:List Assn) (K:Act→World→Prop),(∀b,S n h ((q,.pointer (some ⟨b,0,none⟩))::(p,enc x)::ρ) (blk b T (cells x).toArray::r) K)→S n h ((p,enc x)::ρ) r ((Code.region id #[⟨some q,.alloc T,J,s1,k,none⟩,⟨none,.store T (.tmp q) (.tmp p),H,s2,j,none⟩] false).wpIn {Fence.wide with round:=some l} 0 P (Exit.then K (fun _ _ _=>False))))
  (F:∀(l b:Nat) (done:List f) (x:f) (o:List Assn),G done x →
   S n h ((q,.pointer (some ⟨b,0,none⟩))::(p,enc x)::ρ) (blk b T (cells x).toArray::(I done++o)) (i.wpIn {Fence.wide with round:=some l} 0 P fun e _ t=>e=.normal∧Sat t (I (done++[x])++o)∧Ext h t))
  (L3:∀D xs,E xs→S n h ρ (Cr D::(pre++(I xs++Γ'))) (Ai [{target:=.collected D,args:=#[]}] (Q .normal))) :
  S n h ρ Γ ((Code.rangeFunc g #[p] (.region id #[⟨some q,.alloc T,J,s1,k,none⟩,⟨none,.store T (.tmp q) (.tmp p),H,s2,j,none⟩] false) i).wp P Q):=by
 intro a w s N M
 refine(wpIn_wide (n:=0)).1 (Zbc (s.ev R) U C I (N.Qs X) M (fun x b m=>Jt n ((q,.pointer (some ⟨b,0,none⟩))::(p,enc x)::ρ) m) (fun x b=>blk b T (cells x).toArray) ?_ ?_ ?_)
 ·intro l x W r K d c V
  have y:Jt n ((p,enc x)::ρ) {tmps:=a.tmps.setIfInBounds p (enc x),defers:=[]}:=by
   have L:=s.put O (enc x);exact⟨L.size,rfl,L.get⟩
  exact B h l x r K (fun b m t z v u=>V b m t z v u) _ W y d c
 ·intro l done x b m o W N4 Z d c;exact F l b done x o N4 m W Z d c
 ·intro D xs W Y d c;have:=L3 D xs Y a W s d c;rw[s.defers];exact this
def Qg7(b:Nat)(T E:TypeId)(sz m:Nat)(done:List Value):Assn:=fun h=>∃sv:SV,sv.n=m∧stars [blk b T #[sv.v],own sv E sz done] h
theorem Ent.Qg7{b:Nat}{T E:TypeId}{sz m:Nat}{done:List Value}(sv:SV)(a:sv.n=m)(Γ:List Assn):Ent (blk b T #[sv.v]::own sv E sz done::Γ) (Qg7 b T E sz m done::Γ):=
 (Ent.pack [blk b T #[sv.v],own sv E sz done] Γ).trans (Ent.Kg Γ fun _ p=>⟨sv,a,p⟩)
theorem S.Qg7{g:Bool}{f:WM g}{e:Act→World→Prop}{b:Nat}{T E:TypeId}{sz m:Nat}{done:List Value}{c:List Assn}[p:Pick (Qg7 b T E sz m done) Γ c](k:∀sv:SV,sv.n=m→S n f ρ (blk b T #[sv.v]::own sv E sz done::c) e):S n f ρ Γ e:=by
 intro a w t o j;obtain⟨h0,l,v,u,d,i,h,⟨sv,r,q⟩,s⟩:=o.Qs p.Qs;exact k sv r a w t ⟨h0,l,(Ent.unpack [blk b T #[sv.v],own sv E sz done] c) _ ⟨v,u,d,i,h,q,s⟩⟩ j
end
namespace BN
abbrev Q5u(c a:Nat)(l:List (Int×Value)):List Assn:=[blk c 82 #[.map (some a)],Qz a .u32 l]
theorem Q5t(c a:Nat)(l:List (Int×Value)):Qvh Tryz.prog 104 [] [.pointer (some ⟨c,0,none⟩)] kv (fun done _=>done.length<l.length) (fun xs=>xs.Perm (l.map (·.1))) (Q5u c a l):=by
 intro y w0 J B Γ w f e;refine callsIn_wide.2 (S3 (n:=14) (l:=[.func (.yield y) #[] #[],.pointer (some ⟨c,0,none⟩)]) (Γ:=stars (J [])::blk c 82 #[.map (some a)]::Qz a .u32 l::Γ) (w0:=w0) Tryz.func104 rfl Tryz.ntmps104 rfl ?_ (f.Qs (((Ent.cons _ (Ent.cons _ (Ent.pack (J []) Γ))).trans (Ent.cons _ (Ent.swap _ _ _))).trans (Ent.swap _ _ _))) e);show S _ w0 [(0,.func (.yield y) #[] #[]),(1,.pointer (some ⟨c,0,none⟩))] (stars (J [])::blk c 82 #[.map (some a)]::Qz a .u32 l::Γ) _;refine S.seq fun M A=>(S.region rfl (S.op (S.q (Gl Eo.h rfl rfl) rfl rfl (S.op (S.range Tryz.underlying82 rfl rfl ?_)))));intro o;first|with_reducible refine S.Lq ?_|refine S.nil ?_
 refine A _ _ (S.block ?_);refine S.loop (fun m b Γ'=>∃(left:List (Int×Value)) (i:Option (Int×Value)) (L:List Int),m=left.length∧(L++left.map (·.1)).Perm (l.map (·.1))∧b=[(0,.func (.yield y) #[] #[]),(5,.pointer (some ⟨o,0,none⟩))]∧Γ'=G3 o a .u32 l left i::stars (J L)::blk c 82 #[.map (some a)]::Γ) (m:=_) (ρ0:=_) (Γ0:=_) (⟨l,none,[],rfl,Qom _,rfl,rfl⟩) (by repeat (first|exact trivial|refine⟨rfl,?_⟩)) Sub.Qs ?_;rintro m b Γ' ⟨left,i,L,E,k,rfl,rfl⟩;refine S.seq fun K h=>(S.region rfl ?_)
 refine S.op (S.Xh rfl rfl (fun p=>?_) (fun j d v6 r=>?_))
 ·have q:left=[]:=p;subst q;rw[Qzb,X3]at k;refine S.op (S.q (F8 rfl rfl) rfl rfl ?_);first|with_reducible refine S.Lq ?_|refine S.nil ?_
  refine h _ _ ?_;refine S.seq fun I C=>(S.Qec rfl (S.exit ?_))
  with_reducible repeat (first|refine S.Kx ?_|refine S.Kw ?_|refine S.then_r ?_|refine S.We ?_|refine S.inBlock_r ?_|refine S.inBlock_x rfl ?_|refine S.noGoto_r ?_|refine S.noGoto_n ?_|refine S.noGoto_x ?_)
  with_reducible refine S.Qcn ?_
  with_reducible repeat (first|refine S.Kx ?_|refine S.Kw ?_|refine S.then_r ?_|refine S.We ?_|refine S.inBlock_r ?_|refine S.inBlock_x rfl ?_|refine S.noGoto_r ?_|refine S.noGoto_n ?_|refine S.noGoto_x ?_)
  with_reducible repeat (first|refine S.Kx ?_|refine S.Kw ?_|refine S.then_r ?_|refine S.We ?_|refine S.inBlock_r ?_|refine S.inBlock_x rfl ?_|refine S.noGoto_r ?_|refine S.noGoto_n ?_|refine S.noGoto_x ?_)
  refine S.Zjh rfl ?_;exact fun v w f e=>⟨⟨v,rfl⟩,_,k,f.Qs ((Ent.G3 _).trans ((Sub.Qs (Δ:=blk c 82 #[.map (some a)]::Qz a .u32 l::stars (J L)::Γ)).trans (Ent.cons _ (Ent.cons _ (Ent.unpack _ _))))),e⟩
 ·have g:=Nh r;have s:=g.length_eq;rw[Ka]at s
  have t:((L++[d])++(left.eraseIdx j).map (·.1)).Perm (l.map (·.1)):=by
   rw[Wb];exact(Qor L (g.map (·.1)).symm).trans k
  have D:L.length<l.length:=by
   have:=k.length_eq;rw[Yd,Qo,Qo]at this;omega
  refine S.op (S.q (F8 rfl rfl) rfl rfl ?_);first|with_reducible refine S.Lq ?_|refine S.nil ?_
  refine h _ _ ?_;refine S.seq fun H z=>(S.Qrt rfl (S.skip ?_))
  with_reducible repeat (first|refine S.Kx ?_|refine S.Kw ?_|refine S.then_r ?_|refine S.We ?_|refine S.inBlock_r ?_|refine S.inBlock_x rfl ?_|refine S.noGoto_r ?_|refine S.noGoto_n ?_|refine S.noGoto_x ?_)
  refine z _ _ (S.block ?_);refine S.seq fun G x=>(S.region rfl (S.op (S.q (Cf rfl) rfl rfl (S.op (S.q (F8 rfl rfl) rfl rfl (S.op (S.q (G9 rfl) rfl rfl ?_)))))));first|with_reducible refine S.Lq ?_|refine S.nil ?_
  refine x _ _ ?_;refine S.seq fun F u=>(S.Qms rfl (S.opI rfl ?_));refine  (S.q (Y8 rfl) rfl rfl (S.opI rfl ?_));refine  (S.q (Y8 rfl) rfl rfl ?_);refine S.Qsu rfl rfl (fun w f e=>B L d (G3 o a .u32 l (left.eraseIdx j) (some (d,v6))::blk c 82 #[.map (some a)]::Γ) w D (f.Qs ((Ent.swap _ _ _).trans (Ent.unpack _ _))) e) rfl (S.Qs (Ent.pack _ _) (S.opI rfl ?_));refine  (S.q (Qw6 rfl) rfl rfl (S.Qtr ?_));refine u _ _ (S.Qec rfl (S.skip ?_))
  with_reducible repeat (first|refine S.Kx ?_|refine S.Kw ?_|refine S.then_r ?_|refine S.We ?_|refine S.inBlock_r ?_|refine S.inBlock_x rfl ?_|refine S.noGoto_r ?_|refine S.noGoto_n ?_|refine S.noGoto_x ?_)
  with_reducible repeat (first|refine S.Kx ?_|refine S.Kw ?_|refine S.then_r ?_|refine S.We ?_|refine S.inBlock_r ?_|refine S.inBlock_x rfl ?_|refine S.noGoto_r ?_|refine S.noGoto_n ?_|refine S.noGoto_x ?_)
  with_reducible repeat (first|refine S.Kx ?_|refine S.Kw ?_|refine S.then_r ?_|refine S.We ?_|refine S.inBlock_r ?_|refine S.inBlock_x rfl ?_|refine S.noGoto_r ?_|refine S.noGoto_n ?_|refine S.noGoto_x ?_)
  exact ZX ((left.eraseIdx j).length) (⟨left.eraseIdx j,some (d,v6),L++[d],rfl,t,rfl,rfl⟩) Qb
theorem Q8y(b:Nat):Spec Tryz.prog 65 [.map (some b)] [] fun a v d=>∃c,v=.func (.func 104) #[] #[.pointer (some ⟨c,0,none⟩)]∧d=blk c 82 #[.map (some b)]::a:=by
 refine Zbd Tryz.func65 rfl Tryz.ntmps65 fun f a=>Zsh (ZY 2 (Zp (S.box (cs:=[_]) rfl rfl rfl ?_)));intro e;refine ZY 8 ?_;exact Zf ef Zq (⟨e,rfl,rfl⟩)
theorem Qse(c a:Nat)(l:List (Int×Value))(o:l.length≤65535):Spec Tryz.prog 136 [.slice none 0 0,.func (.func 104) #[] #[.pointer (some ⟨c,0,none⟩)]] (Q5u c a l) fun d v Θ=>∃(sv:SV) (xs:List Int),v=sv.v∧sv.n=xs.length∧xs.Perm (l.map (·.1))∧Θ=own sv 31 1 (xs.map kv)::blk c 82 #[.map (some a)]::Qz a .u32 l::d:=by
 refine Spec.Qg9 Tryz.func136 rfl Tryz.ntmps136 rfl ?_;intro h d;show S _ h [(0,SV.nil.v),(1,.func (.func 104) #[] #[.pointer (some ⟨c,0,none⟩)])] (blk c 82 #[.map (some a)]::Qz a .u32 l::d) _;refine S.seq fun u j=>(S.region rfl (S.op (S.box (cs:=[_]) rfl rfl rfl ?_)));intro f;refine S.op (S.q (G9 rfl) rfl rfl (S.Lq ?_));refine j _ _ (S.seq1 ?_);refine S.seq fun t i=>(S.region rfl (S.op (S.q (Y8 rfl) rfl rfl (S.Lq ?_))));refine i _ _ (S.block ?_)
 refine S.Q31 (fs:=[]) (cs:=[.pointer (some ⟨c,0,none⟩)]) (enc:=kv) (p:=7) (q:=5) rfl Eo.h (Q5t c a l) (fun done=>[N0 f 53 31 (done.map kv)]) (Γ':=d) ?_ rfl rfl ?_ ?_
 ·exact(Sub.Qs (Δ:=blk c 82 #[.map (some a)]::Qz a .u32 l::blk f 53 #[SV.nil.v]::d)).trans (Ent.cons _ (Ent.cons _ ((Ent.cons _ (Ent.Xb 31 1)).trans (Ent.N0 SV.nil rfl _))))
 ·intro y done x Θ r;show S _ h _ (N0 f 53 31 (done.map kv)::Θ) _;refine S.N0 (b:=f) (T:=53) (E:=31) (done:=done.map kv) fun sv g=>?_;rw[Qo]at g;refine S.Qu5 (S.T3 rfl (S.opI rfl ?_));refine(S.q (Gl Eo.h rfl rfl) rfl rfl (S.opI rfl ?_));refine(S.q (Y8 rfl) rfl rfl (S.opI rfl ?_));refine(S.buildSlice (pvs:=[(_,_)]) [_] Tryz.underlying53 Tryz.H9.h rfl rfl ⟨⟨rfl,rfl⟩,trivial⟩ rfl rfl ?_);intro k;refine S.opI rfl ?_;refine(S.Z6 (s:=sv) 1 [kv x] Tryz.underlying53 Tryz.H9.h rfl rfl rfl (Yb (b:=k) rfl (show 1≤maxLen by unfold maxLen;omega)) rfl ⟨Qb,Qb⟩ rfl ?_);intro s2 n;refine S.opI rfl ?_;refine(S.store (cs':=[_]) Eo.h rfl rfl rfl rfl rfl (S.Qtr (S.Zjj ?_)));have e:done.map kv++[kv x]=(done++[x]).map kv:=Q2
  rw[e];exact(Sub.Qs (Δ:=blk f 53 #[s2.v]::own s2 31 1 ((done++[x]).map kv)::Θ)).trans (Ent.N0 s2 (by simp[n,g]) Θ)
 ·intro D xs m;show S _ h _ (Cr D::blk c 82 #[.map (some a)]::Qz a .u32 l::N0 f 53 31 (xs.map kv)::d) _;refine S.N0 (b:=f) (T:=53) (E:=31) (done:=xs.map kv) fun sv g=>?_;rw[Qo]at g;refine S.Zgx (S.Qmt rfl (S.qD (Gl Eo.h rfl rfl) rfl rfl (S.qD (G9 rfl) rfl rfl (S.Zhp (S.Zg4 ?_)))));exact S.Zji (rs:=[_]) (vs:=[_]) Tryz.results136 ⟨rfl,trivial⟩ (Θ:=own sv 31 1 (xs.map kv)::blk c 82 #[.map (some a)]::Qz a .u32 l::d) ⟨sv,xs,rfl,g,m,rfl⟩ Sub.Qs
theorem Q2a(c a:Nat)(l:List (Int×Value))(e:l.length≤65535):Spec Tryz.prog 100 [.func (.func 104) #[] #[.pointer (some ⟨c,0,none⟩)]] (Q5u c a l) fun d v b=>∃(sv:SV) (xs:List Int),v=sv.v∧sv.n=xs.length∧xs.Perm (l.map (·.1))∧b=own sv 31 1 (xs.map kv)::blk c 82 #[.map (some a)]::Qz a .u32 l::d:=by
 refine Zbd Tryz.func100 rfl Tryz.ntmps100 fun h d=>Zsh (ZY 7 (Zp (Zc1 Ze (Qse c a l e) ?_)));rintro v b ⟨sv,xs,rfl,g,f,rfl⟩;refine ZY 3 ?_;exact Zf ef Zq (⟨sv,xs,rfl,g,f,rfl⟩)
theorem Qr5(c b:Nat)(l:List (Int×Value))(h:l.length≤65535):Spec Tryz.prog 61 [.func (.func 104) #[] #[.pointer (some ⟨c,0,none⟩)]] (Q5u c b l) fun g v d=>∃(sv:SV) (xs:List Int),v=sv.v∧sv.n=xs.length∧xs.Perm (l.map (·.1))∧xs.Pairwise (·≤·)∧d=own sv 31 1 (xs.map kv)::blk c 82 #[.map (some b)]::Qz b .u32 l::g:=by
 refine Zbd Tryz.func61 rfl Tryz.ntmps61 fun m g=>Zsh (ZY 7 (Zp (Zc1 Ze (Q2a c b l h) ?_)));rintro v d ⟨sv,xs,rfl,j,i,rfl⟩;have k:xs.length=l.length:=by rw[i.length_eq,Qo]
 refine ZY 5 (Zp (Zc1 Ze (Qob sv xs.toArray (by simpa [k] using h) (by simpa using j)) ?_));rintro v d ⟨R,a,f,rfl⟩;have a:R.toList.Perm xs:=a;have e:sv.n=R.toList.length:=by rw[a.length_eq,j]
 refine ZY 7 ?_;exact Zf ef Zq (⟨sv,R.toList,rfl,e,a.trans i,f,rfl⟩)
abbrev Rn:=Nat×Nat×Nat
abbrev rnV(p:Nat×Nat):Value:=.agg #[.int .u32 (p.1:Int),.int .u32 (p.2:Int)]
abbrev rnC(p:Nat×Nat):List Value:=[.int .u32 (p.1:Int),.int .u32 (p.2:Int)]
abbrev rnE(y:Rn):Int×Value:=((y.1:Int),rnV y.2)
abbrev Zgn(c a:Nat)(r:List Rn):List Assn:=[blk c 88 #[.map (some a)],Qz a .i64 (Cc r)]
theorem Q2x(c a:Nat)(r:List Rn):Qvh Tryz.prog 155 [] [.pointer (some ⟨c,0,none⟩)] rnV (fun done _=>done.length<r.length) (fun xs=>xs.Perm (r.map (·.2))) (Zgn c a r):=by
 intro y w0 J O Γ w i h;refine callsIn_wide.2 (S3 (n:=15) (l:=[.func (.yield y) #[] #[],.pointer (some ⟨c,0,none⟩)]) (Γ:=stars (J [])::blk c 88 #[.map (some a)]::Qz a .i64 (Cc r)::Γ) (w0:=w0) Tryz.func155 rfl Tryz.ntmps155 rfl ?_ (i.Qs (((Ent.cons _ (Ent.cons _ (Ent.pack (J []) Γ))).trans (Ent.cons _ (Ent.swap _ _ _))).trans (Ent.swap _ _ _))) h);show S _ w0 [(0,.func (.yield y) #[] #[]),(1,.pointer (some ⟨c,0,none⟩))] (stars (J [])::blk c 88 #[.map (some a)]::Qz a .i64 (Cc r)::Γ) _;refine S.seq fun Z F=>(S.region rfl (S.op (S.q (Gl Eo.h rfl rfl) rfl rfl (S.op (S.range Tryz.underlying88 rfl rfl ?_)))));intro u;first|with_reducible refine S.Lq ?_|refine S.nil ?_
 refine F _ _ (S.block ?_);refine S.loop (fun m g Γ'=>∃(left:List (Int×Value)) (e:List Rn) (s:Option (Int×Value)) (L:List (Nat×Nat)),m=left.length∧left=e.map rnE∧(L++e.map (·.2)).Perm (r.map (·.2))∧g=[(0,.func (.yield y) #[] #[]),(6,.pointer (some ⟨u,0,none⟩))]∧Γ'=G3 u a .i64 (Cc r) left s::stars (J L)::blk c 88 #[.map (some a)]::Γ) (m:=_) (ρ0:=_) (Γ0:=_) (⟨Cc r,r,none,[],rfl,rfl,Qom _,rfl,rfl⟩) (by repeat (first|exact trivial|refine⟨rfl,?_⟩)) Sub.Qs ?_;rintro m g Γ' ⟨left,e,s,L,T,b,t,rfl,rfl⟩;refine S.seq fun Y q=>(S.region rfl ?_)
 refine S.op (S.Xh rfl rfl (fun x=>?_) (fun f G H d=>?_))
 ·have o:left=[]:=x;have z:e=[]:=by rw[o]at b;exact Fs.1 b.symm
  subst o;rw[z,Qzb,X3]at t;refine S.op (S.q (F8 rfl rfl) rfl rfl ?_);first|with_reducible refine S.Lq ?_|refine S.nil ?_
  refine q _ _ ?_;refine S.seq fun X P=>(S.Qec rfl (S.exit ?_))
  with_reducible repeat (first|refine S.Kx ?_|refine S.Kw ?_|refine S.then_r ?_|refine S.We ?_|refine S.inBlock_r ?_|refine S.inBlock_x rfl ?_|refine S.noGoto_r ?_|refine S.noGoto_n ?_|refine S.noGoto_x ?_)
  with_reducible refine S.Qcn ?_
  with_reducible repeat (first|refine S.Kx ?_|refine S.Kw ?_|refine S.then_r ?_|refine S.We ?_|refine S.inBlock_r ?_|refine S.inBlock_x rfl ?_|refine S.noGoto_r ?_|refine S.noGoto_n ?_|refine S.noGoto_x ?_)
  with_reducible repeat (first|refine S.Kx ?_|refine S.Kw ?_|refine S.then_r ?_|refine S.We ?_|refine S.inBlock_r ?_|refine S.inBlock_x rfl ?_|refine S.noGoto_r ?_|refine S.noGoto_n ?_|refine S.noGoto_x ?_)
  refine S.Zjh rfl ?_;exact fun v w i h=>⟨⟨v,rfl⟩,_,t,i.Qs ((Ent.G3 _).trans ((Sub.Qs (Δ:=blk c 88 #[.map (some a)]::Qz a .i64 (Cc r)::stars (J L)::Γ)).trans (Ent.cons _ (Ent.cons _ (Ent.unpack _ _))))),h⟩
 ·obtain⟨p,M,K⟩:∃p:Rn,e[f]?=some p∧(G,H)=rnE p:=by
   rw[b,Q8]at d;cases I:e[f]? with
   | none=>rw[I]at d;cases d
   | some p=>rw[I]at d;exact⟨p,rfl,(Hb d).symm⟩
  obtain⟨rfl,rfl⟩:G=(p.1:Int)∧H=rnV p.2:=⟨Z3 Prod.fst K,Z3 Prod.snd K⟩;have j:=M5 M;have A:=j.length_eq;rw[Ka]at A
  have B:((L++[p.2])++(e.eraseIdx f).map (·.2)).Perm (r.map (·.2)):=by
   rw[Wb];exact(Qor L (j.map (·.2)).symm).trans t
  have R:L.length<r.length:=by
   have:=t.length_eq;rw[Yd,Qo,Qo]at this;omega
  have k:left.eraseIdx f=(e.eraseIdx f).map rnE:=by rw[b,Vr]
  have N:left.length=e.length:=by rw[b,Qo]
  refine S.op (S.q (F8 rfl rfl) rfl rfl ?_);first|with_reducible refine S.Lq ?_|refine S.nil ?_
  refine q _ _ ?_;refine S.seq fun W E=>(S.Qrt rfl (S.skip ?_))
  with_reducible repeat (first|refine S.Kx ?_|refine S.Kw ?_|refine S.then_r ?_|refine S.We ?_|refine S.inBlock_r ?_|refine S.inBlock_x rfl ?_|refine S.noGoto_r ?_|refine S.noGoto_n ?_|refine S.noGoto_x ?_)
  refine E _ _ (S.block ?_);refine S.seq fun V D=>(S.region rfl (S.op (S.q (Cf rfl) rfl rfl (S.op (S.q (F8 rfl rfl) rfl rfl (S.op (S.alloc Tryz.z175.h rfl ?_)))))));intro Q;refine S.op (S.Qs3 (cs':=[_,_]) Eo.h rfl rfl rfl rfl rfl rfl ?_);first|with_reducible refine S.Lq ?_|refine S.nil ?_
  refine D _ _ ?_;refine S.seq fun U C=>(S.Qms rfl (S.opI rfl ?_));refine  (S.q (Y8 rfl) rfl rfl (S.opI rfl ?_));refine  (S.q (Qmw [_,_] Eo.h rfl rfl ⟨rfl,rfl,trivial⟩) rfl rfl ?_);refine S.Qsu rfl rfl (fun w i h=>O L p.2 (blk Q 175 (rnC p.2).toArray::G3 u a .i64 (Cc r) (left.eraseIdx f) (some ((p.1:Int),rnV p.2))::blk c 88 #[.map (some a)]::Γ) w R (i.Qs ((Ent.third _ _ _ _).trans (Ent.unpack _ _))) h) rfl (S.Qs (Ent.pack _ _) (S.opI rfl ?_));refine  (S.q (Qw6 rfl) rfl rfl (S.Qtr ?_));refine C _ _ (S.Qec rfl (S.skip ?_))
  with_reducible repeat (first|refine S.Kx ?_|refine S.Kw ?_|refine S.then_r ?_|refine S.We ?_|refine S.inBlock_r ?_|refine S.inBlock_x rfl ?_|refine S.noGoto_r ?_|refine S.noGoto_n ?_|refine S.noGoto_x ?_)
  with_reducible repeat (first|refine S.Kx ?_|refine S.Kw ?_|refine S.then_r ?_|refine S.We ?_|refine S.inBlock_r ?_|refine S.inBlock_x rfl ?_|refine S.noGoto_r ?_|refine S.noGoto_n ?_|refine S.noGoto_x ?_)
  with_reducible repeat (first|refine S.Kx ?_|refine S.Kw ?_|refine S.then_r ?_|refine S.We ?_|refine S.inBlock_r ?_|refine S.inBlock_x rfl ?_|refine S.noGoto_r ?_|refine S.noGoto_n ?_|refine S.noGoto_x ?_)
  exact ZX ((left.eraseIdx f).length) (⟨left.eraseIdx f,e.eraseIdx f,some ((p.1:Int),rnV p.2),L++[p.2],rfl,k,B,rfl,rfl⟩) (by rw[k,Qo];omega)
theorem Q8t(b:Nat):Spec Tryz.prog 132 [.map (some b)] [] fun a v d=>∃c,v=.func (.func 155) #[] #[.pointer (some ⟨c,0,none⟩)]∧d=blk c 88 #[.map (some b)]::a:=by
 refine Zbd Tryz.func132 rfl Tryz.ntmps132 fun f a=>Zsh (ZY 2 (Zp (S.box (cs:=[_]) rfl rfl rfl ?_)));intro e;refine ZY 8 ?_;exact Zf ef Zq (⟨e,rfl,rfl⟩)
theorem Qoh(c a:Nat)(r:List Rn)(w:r.length≤65535):Spec Tryz.prog 154 [.slice none 0 0,.func (.func 155) #[] #[.pointer (some ⟨c,0,none⟩)]] (Zgn c a r) fun d v Θ=>∃(sv:SV) (xs:List (Nat×Nat)),v=sv.v∧sv.n=xs.length∧xs.Perm (r.map (·.2))∧Θ=own sv 175 2 (xs.flatMap rnC)::blk c 88 #[.map (some a)]::Qz a .i64 (Cc r)::d:=by
 refine Spec.Qg9 Tryz.func154 rfl Tryz.ntmps154 rfl ?_;intro g d;show S _ g [(0,SV.nil.v),(1,.func (.func 155) #[] #[.pointer (some ⟨c,0,none⟩)])] (blk c 88 #[.map (some a)]::Qz a .i64 (Cc r)::d) _;refine S.seq fun B i=>(S.region rfl (S.op (S.box (cs:=[_]) rfl rfl rfl ?_)));intro f;refine S.op (S.q (G9 rfl) rfl rfl (S.Lq ?_));refine i _ _ (S.seq1 ?_);refine S.seq fun A h=>(S.region rfl (S.op (S.q (Y8 rfl) rfl rfl (S.Lq ?_))));refine h _ _ (S.block ?_)
 refine S.Zbe (fs:=[]) (cs:=[.pointer (some ⟨c,0,none⟩)]) (enc:=rnV) (p:=7) (q:=5) (T:=175) rnC rfl Eo.h (Q2x c a r) (fun done=>[Qg7 f 205 175 2 done.length (done.flatMap rnC)]) (Γ':=d) ?_ rfl ?_ ?_ ?_
 ·exact(Sub.Qs (Δ:=blk c 88 #[.map (some a)]::Qz a .i64 (Cc r)::blk f 205 #[SV.nil.v]::d)).trans (Ent.cons _ (Ent.cons _ ((Ent.cons _ (Ent.Xb 175 2)).trans (Ent.Qg7 SV.nil rfl _))))
 ·intro g l x Δ K o;refine S.T3 rfl (S.opI rfl ?_);refine(S.alloc Tryz.z175.h rfl ?_);intro j;refine S.opI rfl ?_;refine(S.Qs3 (cs':=[_,_]) Eo.h rfl rfl rfl rfl rfl rfl (S.Qtr ?_));exact o j
 ·intro y j done x Θ z;show S _ g _ (blk j 175 (rnC x).toArray::Qg7 f 205 175 2 done.length (done.flatMap rnC)::Θ) _;refine S.Qg7 (b:=f) (T:=205) (E:=175) (sz:=2) (m:=done.length) (done:=done.flatMap rnC) fun sv n=>(S.Qu5 (S.T3 rfl (S.opI rfl ?_)));refine(S.q (Gl Eo.h rfl rfl) rfl rfl (S.opI rfl ?_));refine(S.q (Qmw [_,_] Eo.h rfl rfl ⟨rfl,rfl,trivial⟩) rfl rfl (S.opI rfl ?_));refine(S.buildSlice (pvs:=[(_,_)]) [_,_] Tryz.underlying205 Tryz.Q53.h rfl rfl ⟨⟨rfl,rfl⟩,trivial⟩ rfl rfl ?_);intro k;refine S.opI rfl ?_;refine(S.Z6 (s:=sv) 1 (rnC x) Tryz.underlying205 Tryz.Q53.h rfl rfl rfl (Yb (b:=k) rfl (show 1≤maxLen by unfold maxLen;omega)) rfl ⟨Qb,Qb⟩ rfl ?_);intro s2 u;refine S.opI rfl ?_;refine(S.store (cs':=[_]) Eo.h rfl rfl rfl rfl rfl (S.Qtr (S.Zjj ?_)));have e:done.flatMap rnC++rnC x=(done++[x]).flatMap rnC:=Wv rnC done x;rw[e];exact(Sub.Qs (Δ:=blk f 205 #[s2.v]::own s2 175 2 ((done++[x]).flatMap rnC)::Θ)).trans (Ent.Qg7 s2 (by simp[u,n]) Θ)
 ·intro D xs t;show S _ g _ (Cr D::blk c 88 #[.map (some a)]::Qz a .i64 (Cc r)::Qg7 f 205 175 2 xs.length (xs.flatMap rnC)::d) _;refine S.Qg7 (b:=f) (T:=205) (E:=175) (sz:=2) (m:=xs.length) (done:=xs.flatMap rnC) fun sv n=>(S.Zgx (S.Qmt rfl (S.qD (Gl Eo.h rfl rfl) rfl rfl (S.qD (G9 rfl) rfl rfl (S.Zhp (S.Zg4 ?_))))));exact S.Zji (rs:=[_]) (vs:=[_]) Tryz.results154 ⟨rfl,trivial⟩ (Θ:=own sv 175 2 (xs.flatMap rnC)::blk c 88 #[.map (some a)]::Qz a .i64 (Cc r)::d) ⟨sv,xs,rfl,n,t,rfl⟩ Sub.Qs
theorem Qvk(c a:Nat)(r:List Rn)(e:r.length≤65535):Spec Tryz.prog 131 [.func (.func 155) #[] #[.pointer (some ⟨c,0,none⟩)]] (Zgn c a r) fun d v b=>∃(sv:SV) (xs:List (Nat×Nat)),v=sv.v∧sv.n=xs.length∧xs.Perm (r.map (·.2))∧b=own sv 175 2 (xs.flatMap rnC)::blk c 88 #[.map (some a)]::Qz a .i64 (Cc r)::d:=by
 refine Zbd Tryz.func131 rfl Tryz.ntmps131 fun h d=>Zsh (ZY 7 (Zp (Zc1 Ze (Qoh c a r e) ?_)));rintro v b ⟨sv,xs,rfl,g,f,rfl⟩;refine ZY 3 ?_;exact Zf ef Zq (⟨sv,xs,rfl,g,f,rfl⟩)
end BN
section
variable {P:Program}{n:Nat}{md:Bool}{w0:WM md}{ρ:Env}{Γ:List Assn}{Q:Exit→Act→World→Prop}{K:Act→World→Prop}{ty:TypeId}{pos:String}{af:Array Edge}{gd:Option (Nat×Bool)}
theorem Rl(z:Array Value)(m:Nat):(Builtin.zeroCells z m).toList.length=m*z.size:=by simp[Builtin.zeroCells]
theorem Qjf{z:Array Value}(h:∀u∈z.toList,u.oneCell'=true)(m:Nat):∀u∈(Builtin.zeroCells z m).toList,u.oneCell'=true:=by
 intro u b;simp only[Builtin.zeroCells,Array.toList_map,Qq]at b;obtain⟨i,d,rfl⟩:=b;have a:i<m*z.size:=by simpa using d
 have c:0<z.size:=by
  rcases Qsk z.size with e|e
  ·rw[e,Nat.mul_zero]at a;omega
  ·exact e
 have f:=Qiz i c;rw[Fp z (i % z.size) f];exact h _ Q2
theorem Qge{w:World}{t e:TypeId}{ii:TypeInfo}{z:Value}(m:Nat)(l:0<m)(f:P.underlying t=some (.slice e))(h:P.info? e=some ii)(d:ii.zero=some z)(g off cap:Nat)(a:Array Value)(i:Blk w g e a)(b:off+m*z.cells.size≤a.size)(j:∀u∈z.cells.toList,u.oneCell'=true) :
  (Builtin.clear_ #[t] ty #[.slice (some ⟨g,off,none⟩) m cap]).run P w=.ok (.tuple #[]) (w.setRow g (a.toList.take off++(Builtin.zeroCells z.cells m).toList++a.toList.drop (off+(Builtin.zeroCells z.cells m).toList.length)).toArray):=by
 have c:=run_storeCells_at P g off e (Builtin.zeroCells z.cells m).toList 0 a w i (by rw[Rl];simpa using b) (Qjf j m);simp only[Qbl]at c;obtain⟨k,rfl⟩:∃k,m=k+1:=⟨m-1,Qb⟩;simp[Builtin.clear_,run_underlying f,zeroValue,typeInfo,h,d,c]
theorem S.Quy{t e l L:Nat}{y:List Value}{x:Operand}(s:SV)(m:Nat){xs:List Value}{p:Option Addr}{q J:Nat}{N:List Assn}{b off:Nat}(R:P.underlying t=some (.slice e))(j:Kt P e=some (y,l,L))(B:Nat.beq y.length l=true)(C:Ee y=true)(D:ev ρ x=some (.slice p q J))[h:Uo Γ s e l xs N](T:s.a=some ⟨b,off,none⟩)
  (hq:q=m) (g:0<m→p=some ⟨b,off+s.n*l,none⟩) (U:s.n+m≤s.c) (k:S n w0 ρ (own s e l xs::N) K) :
  S n w0 ρ Γ (Ow P Q ⟨none,.call {callee:=.builtin .clear,args:=#[x],argTypes:=#[t]},ty,pos,af,gd⟩ K):=by
 intro a w u E W;subst hq
 rcases Qsk q with d|d
 ·subst d
  have f:(Builtin.clear_ #[t] ty #[.slice p 0 J]).run P w=.ok (.tuple #[]) w:=by
   cases p <;> simp[Builtin.clear_,run_underlying R]
  have F:(execOp a.eval ⟨none,.call {callee:=.builtin .clear,args:=#[x],argTypes:=#[t]},ty,pos,af,gd⟩).run P w=.ok (.value (.tuple #[])) w:=by
   simp[execOp,u.ev D,resolve,invoke,builtin,f]
  unfold Ow Oper.wp;rw[F,Oper.upon_value];exact k _ _ (u.Fa _) (E.Qs h.Qs) W
 have g:=g d;subst g;unfold Kt at j;split at j
 case h_2=>cases j
 rename_i i G;split at j
 case h_2=>cases j
 rename_i z hz;simp only[Km,Hx]at j;obtain⟨rfl,rfl,rfl⟩:=j;have A:=Qbk B;have I:=h.own E;obtain⟨sa,sn,sc⟩:=s;simp only at T U D I;subst T;have o:=I.1
 rcases I.2 with ⟨h0,_⟩|⟨b',O,c',c,q1,q2,V,Z,Y,q6,X⟩
 ·cases h0
 simp only[SV.v,Value.slice.injEq,Km,Addr.mk.injEq,R6,B3]at q1;obtain⟨⟨rfl,rfl⟩,rfl⟩:=q1;have H:(sn+q)*i.size≤sc*i.size:=R5 _ U;rw[Qi7]at H;have r:z.cells.size=i.size:=by simpa using A
 have M:off+sn*i.size+q*z.cells.size≤c.size:=by rw[r];omega
 have a0:(Builtin.zeroCells z.cells q).toList.length=q*i.size:=by rw[Rl,r]
 have f:=Qge (P:=P) (ty:=ty) q d R G hz b (off+sn*i.size) J c V M (fun v hv=>Kn.1 C v hv)
 have F:(execOp a.eval ⟨none,.call {callee:=.builtin .clear,args:=#[x],argTypes:=#[t]},ty,pos,af,gd⟩).run P w=.ok (.value (.tuple #[])) (w.setRow b (c.toList.take (off+sn*i.size)++(Builtin.zeroCells z.cells q).toList++c.toList.drop (off+sn*i.size+(Builtin.zeroCells z.cells q).toList.length)).toArray):=by
  simp[execOp,u.ev D,resolve,invoke,builtin,f]
 unfold Ow Oper.wp;rw[F,Oper.upon_value];refine k _ _ (u.Fa _) ?_ (W.trans ⟨rfl,rfl,rfl,by simp[World.setRow],Q1 _⟩)
 refine(E.Qs h.Qs).Qg5 (b:=b) ⟨o,.inr ⟨b,off,sc,_,rfl,rfl,setRow_heap w b c _ e _ V,Z,Y,?_,?_⟩⟩ rfl ⟨rfl,rfl,rfl,by simp[World.setRow],fun k _ hk=>setRow_other w b k _ hk,Q1 _⟩
 ·simp only[Qzd,Yd,V9,R4,Mk];omega
 ·have Uj:(c.toList.take (off+sn*i.size)).length=off+sn*i.size:=by simp;omega
  simp only;rw[Wb,Qzc Qb,←X,Qsj];have e2:off+sn*i.size-off=sn*i.size:=Qb
  rw[e2,List.take_left' (by rw[V9,R4,Mk];omega)]
end
namespace BN
def oI(r:Option Nat):Int:=match r with
 | some i=>(i:Int)
 | none=>-1
theorem Qof(R:Assn)(s:SV)(l:List Nat)(n:Int)(H:s.n=l.length)(o:RdS R s s.n 1 (nds l)):Spec Tryz.prog 93 [s.v,.int .i64 n] [R] fun f v w=>(∃r:Option Nat,v=.int .i64 (oI r)∧(r=none→∀x∈l,(x:Int)≠n)∧∀i,r=some i→∃x:Nat,l[i]?=some x∧(x:Int)=n∧∀y∈l.take i,(y:Int)≠n)∧w=R::f:=by
 refine Zbd Tryz.func93 rfl Tryz.ntmps93 fun D f=>Zsh ?_;refine S.T6 o fun _ A z=>(ZY 8 (ZY 4 ?_));refine Zl (fun q b c=>∃i:Nat,q=l.length-i∧i≤l.length∧(∀y∈l.take i,(y:Int)≠n)∧b=[(0,s.v),(1,.int .i64 n),(7,.int .i64 (s.n:Int)),(8,.int .i64 (i:Int))]∧c=R::f) (m:=_) (⟨0,rfl,Qb,fun y a=>(by cases a),rfl,rfl⟩) ?_;rintro q b c ⟨i,F,G,d,rfl,rfl⟩;refine ZY 5 ?_
 refine Zj ef (fun B=>?_) (fun B=>?_)
 ·refine S.Ao o Qb fun sb E u=>?_;obtain⟨x,g⟩:=Xs (show i<l.length by omega);have C:l.take (i+1)=l.take i++[x]:=by rw[X2,g];rfl
  refine ZY 8 (ZY 5 (Zv (Zx (i) ef (u) ef Qb) ?_));refine Zv (Bl o i Eo.h rfl u Qb Qb (by rw[Q8,g];rfl)) ?_;refine ZY 2 ?_
  refine Zj ef (fun p=>?_) (fun p=>?_)
  ·refine ZY 6 ?_;exact Zf ef Zq (⟨⟨some i,rfl,fun h=>(by cases h),fun j k=>by cases k;exact⟨x,g,p.symm,d⟩⟩,rfl⟩)
  ·have t:∀y∈l.take (i+1),(y:Int)≠n:=fun y a=>by
    rw[C,Xu,Vd]at a
    rcases a with a|rfl
    ·exact d y a
    ·exact fun e=>p e.symm
   refine ZY 2 (Zv (Za ef ef) (ZY 2 ?_));exact ZX (q-1) (⟨i+1,Qb,Qb,t,rfl,rfl⟩) Qb
 ·rw[show i=l.length by omega,Wh]at d;refine ZY 6 ?_;exact Zf ef Zq (⟨⟨none,rfl,fun _=>d,fun j k=>(by cases k)⟩,rfl⟩)
theorem S8(R:Assn)(s:SV)(l:List Nat)(n:Nat)(k:s.n=l.length)(g:RdS R s s.n 1 (nds l)):Spec Tryz.prog 51 [s.v,.int .i64 (n:Int)] [R] fun b v a=>v=.bool (decide (n∈l))∧a=R::b:=by
 refine Zbd Tryz.func51 rfl Tryz.ntmps51 fun m b=>Zsh (ZY 8 (Zp (Zc1 Ze (Qof R s l (n:Int) k g) ?_)));rintro v a ⟨⟨r,rfl,j,h⟩,rfl⟩
 have f:decide (n∈l)=decide ((0:Int)≤oI r):=by
  cases r with
  | none=>rw[Q6 (fun d=>j rfl n d rfl)];rfl
  | some i=>
   obtain⟨x,c,e,_⟩:=h i rfl;rw[Zh (show n∈l from (show x=n by omega) ▸ Yn c),Zh (show (0:Int)≤oI (some i) from by show (0:Int)≤(i:Int);omega)]
 refine ZY 4 ?_;exact Zf ef Zq (⟨by rw[f];rfl,rfl⟩)
theorem Qx0(t:Nat)(n:Int)(o:Od):Spec Tryz.prog 49 [.agg (odC o).toArray,pt t] [blk t 3 #[.int .i64 n]] fun a v b=>v=.bool (decide ((o.1:Int)=n))∧b=blk t 3 #[.int .i64 n]::a:=by
 refine Zbd Tryz.func49 rfl Tryz.ntmps49 fun c a=>Zsh (ZY 2 (Zp (S.box (cs:=[_,_,_,_,_,_,_,_,_,_,_,_,_,_]) rfl rfl rfl ?_)));intro d;refine ZY 8 (ZY 3 ?_);exact Zf ef Zq (⟨rfl,rfl⟩)
abbrev Qxz(t:Nat):Value:=.func (.func 49) #[] #[pt t]
theorem Q8z(t:Nat)(n:Int)(s:SV)(os:List Od)(G:s.n=os.length):Spec Tryz.prog 92 [s.v,Qxz t] [own s 97 14 (os.flatMap odC),blk t 3 #[.int .i64 n]] fun e v o=>(∃r:Option Nat,v=.int .i64 (oI r)∧(r=none→∀x∈os,(x.1:Int)≠n)∧∀i,r=some i→∃x:Od,os[i]?=some x∧(x.1:Int)=n∧∀y∈os.take i,(y.1:Int)≠n)∧o=own s 97 14 (os.flatMap odC)::blk t 3 #[.int .i64 n]::e:=by
 refine Zbd Tryz.func92 rfl Tryz.ntmps92 fun C e=>Zsh ?_;refine S.Xn s fun z H w=>?_;have u:maxLen≤9223372036854775807:=by unfold maxLen;omega
 refine ZY 8 (ZY 4 ?_);refine Zl (fun q b c=>∃i:Nat,q=os.length-i∧i≤os.length∧(∀y∈os.take i,(y.1:Int)≠n)∧b=[(0,s.v),(1,Qxz t),(7,.int .i64 (s.n:Int)),(8,.int .i64 (i:Int))]∧c=own s 97 14 (os.flatMap odC)::blk t 3 #[.int .i64 n]::e) (m:=_) (⟨0,rfl,Qb,fun y a=>(by cases a),rfl,rfl⟩) ?_;rintro q b c ⟨i,E,F,d,rfl,rfl⟩;refine ZY 5 ?_
 refine Zj ef (fun A=>?_) (fun A=>?_)
 ·refine S.Q7 s Qb fun sb D p _ _ _=>?_;obtain⟨x,f⟩:=Xs (show i<os.length by omega);have B:os.take (i+1)=os.take i++[x]:=by rw[X2,f];rfl
  refine ZY 8 (ZY 5 (Zv (Zx (i) ef (p) ef Qb) (Zv (Ub (s) (i*14) [_,_,_,_,_,_,_,_,_,_,_,_,_,_] Eo.h rfl p (by first|rfl|exact Xr _ _ _|omega) rfl (Wr (enc:=odC) (sz:=14) Qag f)) ?_)));refine Zp (S.Qyt (fs:=[]) (cs:=[pt t]) (vs:=[_]) Eo.h rfl ⟨rfl,trivial⟩ (Qx0 t n x) rfl ?_);rintro v o ⟨rfl,rfl⟩;refine Zy ?_
  refine Zj ef (fun k=>?_) (fun k=>?_)
  ·refine ZY 6 ?_;exact Zf ef Zq (⟨⟨some i,rfl,fun h=>(by cases h),fun j g=>by cases g;exact⟨x,f,k,d⟩⟩,rfl⟩)
  ·have l:∀y∈os.take (i+1),(y.1:Int)≠n:=fun y a=>by
    rw[B,Xu,Vd]at a
    rcases a with a|rfl
    ·exact d y a
    ·exact k
   refine ZY 2 (Zv (Za ef ef) (ZY 2 ?_));exact ZX (q-1) (⟨i+1,Qb,Qb,l,rfl,rfl⟩) Qb
 ·rw[show i=os.length by omega,Wh]at d;refine ZY 6 ?_;exact Zf ef Zq (⟨⟨none,rfl,fun _=>d,fun j g=>(by cases g)⟩,rfl⟩)
theorem Q83(t n:Nat)(s:SV)(os:List Od)(W:s.n=os.length):Spec Tryz.prog 48 [s.v,Qxz t] [own s 97 14 (os.flatMap odC),blk t 3 #[.int .i64 (n:Int)]] fun J v I=>∃u:SV,v=u.v∧u.n=(os.filter fun o=>decide (o.1≠n)).length∧I=own u 97 14 ((os.filter fun o=>decide (o.1≠n)).flatMap odC)::blk t 3 #[.int .i64 (n:Int)]::J:=by
 refine Zbd Tryz.func48 rfl Tryz.ntmps48 fun w0 J=>Zsh ?_;refine S.Xn s fun a2 Bt a1=>?_;have a0:maxLen≤9223372036854775807:=by unfold maxLen;omega
 have G:∀l:List Od,(∀y∈l,(y.1:Int)≠(n:Int))→l.filter (fun o=>decide (o.1≠n))=l:=fun l h=>Np.2 fun y Z=>Zh (by have:=h y Z;omega);refine ZY 8 (Zp (Zc1 Ze (Q8z t n s os W) ?_));rintro v I ⟨⟨r,rfl,O,P4⟩,rfl⟩;refine ZY 8 ?_
 refine Zj ef (fun R=>?_) (fun R=>?_)
 ·have N:r=none:=by cases r with|none=>rfl|some i=>exact absurd R (by show ¬(i:Int)=-1;omega)
  have D:=G os (O N);refine ZY 6 ?_;exact Zf ef Zq (⟨s,rfl,by rw[D];exact W,by rw[D]⟩)
 ·obtain⟨i0,C⟩:∃i,r=some i:=by cases r with|none=>exact absurd rfl R|some i=>exact⟨i,rfl⟩
  obtain⟨U,A,Y3,M⟩:=P4 i0 C;subst C;have a4:=(Yz.1 A).1;have T:os.take (i0+1)=os.take i0++[U]:=by rw[X2,A];rfl
  have Q:os.take i0=(os.take (i0+1)).filter fun o=>decide (o.1≠n):=by
   rw[T,Gu,G _ M];have K:U.1=n:=Qb
   simp[K]
  rw[show oI (some i0)=(i0:Int) from rfl];refine ZY 5 (Zv (Bm rfl rfl (Xy Qb Qb)) (ZY 3 ?_));refine Zl (fun q w z=>∃(i j:Nat) (a:List Od),q=os.length-j∧i<j∧j≤os.length∧a.length=os.length∧a.take i=(os.take j).filter (fun o=>decide (o.1≠n))∧a.drop j=os.drop j∧w=[(0,s.v),(1,Qxz t),(5,.int .i64 (i:Int)),(6,.int .i64 (j:Int))]∧z=own s 97 14 (a.flatMap odC)::blk t 3 #[.int .i64 (n:Int)]::J) (m:=_) (⟨i0,i0+1,os,rfl,Qb,Qb,rfl,Q,rfl,rfl,rfl⟩) ?_;rintro q w z ⟨i,j,a,hq,a3,hj,d,b,E,rfl,rfl⟩;refine ZY 8 ?_
  refine Zj ef (fun h2=>?_) (fun h2=>?_)
  ·refine S.Q7 s Qb fun sb Y g _ _ _=>?_;obtain⟨x,V⟩:=Xs (show j<os.length by omega)
   have L:a[j]?=some x:=by
    have:=Z3 (fun l:List Od=>l[0]?) E;simp only[Qsf,Qbl]at this;rw[this,V]
   have X:os.take (j+1)=os.take j++[x]:=by rw[X2,V];rfl
   have f:a.drop (j+1)=os.drop (j+1):=by rw[←Qls,E,Qls]
   refine ZY 7 (Zv (Zx (j) ef (g) ef Qb) (Zv (Ub (s) (j*14) [_,_,_,_,_,_,_,_,_,_,_,_,_,_] Eo.h rfl g (by first|rfl|exact Xr _ _ _|omega) rfl (Wr (enc:=odC) (sz:=14) Qag L)) (Zp (S.alloc Tryz.z97.h rfl ?_))));intro b7;refine Zp (Zs ef ef (cs':=[_,_,_,_,_,_,_,_,_,_,_,_,_,_]) ef (ZY 5 ?_));refine Zp (S.Qyt (fs:=[]) (cs:=[pt t]) (vs:=[_]) Eo.h rfl ⟨rfl,trivial⟩ (Qx0 t n x) rfl ?_);rintro v I ⟨rfl,rfl⟩;refine ZY 2 ?_
   refine Zi ef (fun H=>?_) (fun H=>?_)
   ·have Uh:x.1≠n:=fun e=>by rw[Zh (show (x.1:Int)=n by omega)]at H;cases H
    have B:i<a.length:=Qb
    have c:(a.set i x).take (i+1)=(os.take (j+1)).filter fun o=>decide (o.1≠n):=by
     rw[X,Gu,←b,X2,Pp B,List.take_set_of_le (Q1 i)];simp[Uh]
    have F:(a.set i x).drop (j+1)=os.drop (j+1):=by rw[List.drop_set_of_lt Qb,f]
    refine ZY 5 (Zv (Zx (i) ef (g) ef Qb) ?_);refine Zp (S.Qfr (s) (i*14) Eo.h rfl rfl rfl rfl g (by first|rfl|exact Xr _ _ _|omega) (by rw[Y1 Qag];show i*14+14≤_;omega) (Qh7 Qag B x) (ZY 3 (Zv (Bm rfl rfl (Xy Qb Qb)) (ZY 4 (Zv (Bm rfl rfl (Xy Qb Qb)) (ZY 2 ?_))))));first|exact ZX (q-1) ⟨i+1,j+1,a.set i x,Qb,Qb,Qb,by rw[Xf];exact d,c,F,rfl,rfl⟩ Qb|exact ZX (q-1) ⟨i,j+1,a,Qb,Qb,Qb,d,c,f,rfl,rfl⟩ Qb
   ·have heq:x.1=n:=by
     have:=U4 (p:=(x.1:Int)=n) (by simpa using H);omega
    have c:a.take i=(os.take (j+1)).filter fun o=>decide (o.1≠n):=by
     rw[X,Gu,←b];simp[heq]
    refine ZY 3 (Zv (Bm rfl rfl (Xy Qb Qb)) (ZY 2 ?_));first|exact ZX (q-1) ⟨i+1,j+1,a.set i x,Qb,Qb,Qb,by rw[Xf];exact d,c,F,rfl,rfl⟩ Qb|exact ZX (q-1) ⟨i,j+1,a,Qb,Qb,Qb,d,c,f,rfl,rfl⟩ Qb
  ·have P:j=os.length:=Qb
   rw[P,Wh]at b;refine S.Q7 s Qb fun sb Y g _ _ _=>(S.conv (own s 97 14 (a.flatMap odC)) (Ent.Qm6 s 97 14 (a.flatMap odC) (k:=i) Qb _) ?_);rw[P6 Qag,b];refine ZY 5 (Zv (Qp2 i Eo.h rfl rfl rfl Qb) ?_);refine Zp (S.Quy ⟨s.a,i,s.c⟩ (s.n-i) Tryz.underlying37 Tryz.Q51.h rfl rfl rfl g rfl (fun _=>by rw[Qe Qb,g];simp[Addr.add]) (by show i+(s.n-i)≤s.c;omega) (ZY 5 (Zv (Qb4 (i) Eo.h rfl rfl rfl Qb) (ZY 3 ?_))));exact Zf ef Zq (⟨⟨s.a,i,s.c⟩,rfl,by rw[←b,V9];show i=_;omega,rfl⟩)
theorem Qej(n:Nat)(d:n≤1099511627776):Spec Tryz.prog 125 [.int .i64 (n:Int)] [] fun a v b=>v=.int .i64 (n:Int)∧b=a:=by
 refine Zbd Tryz.func125 rfl Tryz.ntmps125 fun c a=>Zsh (ZY 7 ?_);refine Zv (Qd0 ((n:Int)) rfl rfl (⟨Qb,Qb,Qb⟩)) ?_;refine Zv (Qp3 ((n:Int)) rfl rfl (⟨Qb,Qb,Qb⟩)) (ZY 3 ?_);exact Zf ef Zq (⟨rfl,rfl⟩)
theorem Zjp(a b:Nat)(g:a≤549755813888)(f:b≤549755813888):Spec Tryz.prog 134 [.int .i64 (a:Int),.int .i64 (b:Int)] [] fun c v d=>v=.int .i64 (a+b:Nat)∧d=c:=by
 refine Zbd Tryz.func134 rfl Tryz.ntmps134 fun e c=>Zsh (ZY 7 (Zp (Zcp Ze (Qej a Qb) (Zy (Zp (Zcp Ze (Qej b Qb) (Zv (Za ef ef) (Zp (Zcp Ze (Qej (a+b) Qb) (ZY 3 ?_))))))))));exact Zf ef Zq (⟨rfl,rfl⟩)
theorem Zjl(a b:Nat)(g:a≤1099511627776)(f:b≤a):Spec Tryz.prog 145 [.int .i64 (a:Int),.int .i64 (b:Int)] [] fun c v d=>v=.int .i64 (a-b:Nat)∧d=c:=by
 refine Zbd Tryz.func145 rfl Tryz.ntmps145 fun e c=>Zsh (ZY 7 (Zp (Zcp Ze (Qej a Qb) (Zy (Zp (Zcp Ze (Qej b Qb) (Zv (Zm ef ef) ?_)))))));rw[show (a:Int)-(b:Int)=((a-b:Nat):Int) by omega];refine Zp (Zcp Ze (Qej (a-b) Qb) (ZY 3 ?_));exact Zf ef Zq (⟨rfl,rfl⟩)
theorem Zh0(a b:Nat)(f:a≤1099511627776)(e:b≤a):Spec Tryz.prog 112 [.int .i64 (a:Int),.int .i64 (b:Int)] [] fun c v d=>v=.int .i64 (a-b:Nat)∧d=c:=by
 refine Zbd Tryz.func112 rfl Tryz.ntmps112 fun g c=>Zsh (ZY 8 (Zp (Zcp Ze (Zjl a b f e) (ZY 3 ?_))));exact Zf ef Zq (⟨rfl,rfl⟩)
theorem Zh1(a b:Nat)(f:a≤1099511627776)(e:b≤1099511627776):Spec Tryz.prog 133 [.int .i64 (a:Int),.int .i64 0,.int .i64 (b:Int)] [] fun c v d=>v=.int .i64 (min a b:Nat)∧d=c:=by
 refine Zbd Tryz.func133 rfl Tryz.ntmps133 fun g c=>Zsh (ZY 7 (Zp (Zcp Ze (Qej a f) (Zy (Zp (Zcp Ze (Qej 0 Qb) ?_))))));refine Zv (Qd0 ((a:Int)) rfl rfl (⟨Qb,by show ((0:Nat):Int)≤_;omega,Qb⟩)) (Zy (Zp (Zcp Ze (Qej b e) ?_)));refine Zv (Qp3 (((min a b:Nat):Int)) rfl rfl (⟨Qb,Qb,Qb⟩)) (ZY 3 ?_);exact Zf ef Zq (⟨rfl,rfl⟩)
theorem Qnm(t n:Nat)(d:t≤4294967295)(e:n≤1000000):Spec Tryz.prog 83 [.int .u32 (t:Int),.int .i64 (n:Int)] [] fun a v b=>v=.int .u32 (Xi t n:Nat)∧b=a:=by
 refine Zbd Tryz.func83 rfl Tryz.ntmps83 fun c a=>Zsh ?_;have f:Xi t n=min (t+n) 4294967295:=rfl;refine ZY 7 ?_;refine Zv (Vu Tryz.it3.h (by rw[Tryz.underlying31];rfl) rfl (Xy Qb Qb)) (Zy (Zp (Zcp Ze (Qej n Qb) (Zv (Za ef ef) ?_))));refine Zv (Qp3 (((Xi t n:Nat):Int)) rfl rfl (⟨Qb,Qb,Qb⟩)) ?_;refine Zv (Vu Tryz.Zh4.h (by rw[Tryz.underlying3];rfl) rfl (Qx7 Qb Qb)) (ZY 3 ?_);exact Zf ef Zq (⟨rfl,rfl⟩)
theorem Qg6{l m:List (Nat×Nat)}(h:l.Perm m):∀a,Ve l a=Ve m a:=by
 induction h with
 | nil=>exact fun _=>rfl
 | cons x _ d=>exact fun a=>by rw[Ve,Ve,d]
 | swap x y l=>
  intro a;simp only[Ve];have e:((max (max a.1 y.1) x.1,min (min a.2 y.2) x.2):Nat×Nat)=(max (max a.1 x.1) y.1,min (min a.2 x.2) y.2):=Prod.ext (by show max (max a.1 y.1) x.1=max (max a.1 x.1) y.1;omega) (by show min (min a.2 y.2) x.2=min (min a.2 x.2) y.2;omega);rw[e];split <;> split <;> rfl
 | trans _ _ c b=>exact fun a=>(c a).trans (b a)
theorem Qjm{l m:List (Nat×Nat)}(h:l.Perm m):Vb l=Vb m:=by
 unfold Vb;rw[Qg6 h];have:(l=[])↔m=[]:=⟨fun e=>by subst e;exact h.nil_eq.symm,fun e=>by subst e;exact h.eq_nil⟩
 by_cases e:l=[]
 ·rw[Qh e,Qh (this.1 e)]
 ·rw[Qe e,Qe (fun q=>e (this.2 q))]
theorem Qqc(l:List (Nat×Nat)):Vb l≤4294967296:=by
 have key:∀(l:List (Nat×Nat)) (a p:Nat×Nat),a.2≤4294967295→Ve l a=some p→p.2≤4294967295:=by
  intro l;induction l with
  | nil=>intro a p h e;cases e;exact h
  | cons x l b=>
   intro a p h e;rw[Ve]at e
   split at e
   ·cases e
   ·exact b _ _ (show min a.2 x.2≤_ by omega) e
 unfold Vb
 split
 ·omega
 ·split
  ·omega
  ·rename_i f t e;have:=key _ _ _ (by show 4294967295≤4294967295;omega) e
   split
   ·omega
   ·have:t≤4294967295:=this;omega
theorem Q0c(sv:SV)(xs:List (Nat×Nat))(r:sv.n=xs.length)(B:∀x∈xs,x.1≤4294967295∧x.2≤4294967295):Spec Tryz.prog 130 [sv.v] [own sv 175 2 (xs.flatMap rnC)] fun h v s=>v=.int .i64 (Vb xs:Nat)∧s=own sv 175 2 (xs.flatMap rnC)::h:=by
 refine Zbd Tryz.func130 rfl Tryz.ntmps130 fun E h=>Zsh ?_;refine S.Xn sv fun z L y=>?_;have w:maxLen≤9223372036854775807:=by unfold maxLen;omega
 refine ZY 8 (ZY 3 ?_)
 refine Zj ef (fun l=>?_) (fun l=>?_)
 ·have A:xs=[]:=Ae Qb;refine ZY 5 ?_;exact Zf ef Zq (⟨by subst A;rfl,rfl⟩)
 ·have p:xs≠[]:=fun e=>by rw[e]at r;exact absurd (show sv.n=0 from r) Qb
  refine ZY 8 (ZY 6 ?_);refine Zl (fun q b c=>∃(i f u:Nat),q=xs.length-i∧i≤xs.length∧f≤4294967295∧u≤4294967295∧Ve xs (0,4294967295)=Ve (xs.drop i) (f,u)∧b=[(0,sv.v),(3,.int .u32 (f:Int)),(4,.int .u32 (u:Int)),(10,sv.v),(11,.int .i64 (sv.n:Int)),(12,.int .i64 (i:Int))]∧c=own sv 175 2 (xs.flatMap rnC)::h) (m:=_) (⟨0,0,4294967295,rfl,Qb,Qb,Qb,rfl,rfl,rfl⟩) ?_;rintro q b c ⟨i,f,u,H,I,J,G,a,rfl,rfl⟩;refine ZY 5 ?_
  refine Zj ef (fun k=>?_) (fun k=>?_)
  ·refine S.Q7 sv Qb fun sb F o _ _ _=>?_;obtain⟨x,j⟩:=Xs (show i<xs.length by omega);have t:=B x (Yn j)
   have g:xs.drop i=x::xs.drop (i+1):=by
    obtain⟨l,k⟩:=Yz.1 j;rw[R2 l,k]
   refine ZY 5 (Zv (Zx (i) ef (o) ef Qb) ?_);refine Zv (Ub (sv) (i*2) [_,_] Eo.h rfl o (by first|rfl|exact Xr _ _ _|omega) rfl (Wr (enc:=rnC) (sz:=2) (fun _=>rfl) j)) (Zp (S.alloc Tryz.z175.h rfl ?_));intro K;refine Zp (Zs ef ef (cs':=[_,_]) ef (ZY 2 ?_));refine Zd0 (Zra 0 10) (Zy ?_);refine Zw ef (Ln Tryz.Qry.h rfl rfl (⟨Qb,Qb⟩)) ?_;refine Zw ef (Gl Eo.h rfl rfl) ?_;refine Zw ef (Qd0 (((max f x.1:Nat):Int)) rfl rfl Qb) (Zy ?_);refine Zw ef (Ln Tryz.Qry.h rfl rfl (⟨Qb,Qb⟩)) ?_;refine Zw ef (Gl Eo.h rfl rfl) ?_;refine Zw ef (Qp3 (((min u x.2:Nat):Int)) rfl rfl Qb) (ZY 2 ?_);refine ZD (ZY 2 ?_);refine Zv (Ln Tryz.Qry.h rfl rfl (⟨Qb,Qb⟩)) (Zv (Gl Eo.h rfl rfl) ?_);refine Zv (Ln Tryz.Qry.h rfl rfl (⟨Qb,Qb⟩)) (Zv (Gl Eo.h rfl rfl) (ZY 2 ?_))
   refine Zj ef (fun D=>?_) (fun D=>?_)
   ·have h0:Vb xs=0:=by
     unfold Vb;rw[Qe p,a,g,Ve,Qh (show x.2<x.1 by omega)]
    refine ZY 5 ?_;exact Zf ef Zq (⟨by rw[h0];rfl,rfl⟩)
   ·have n:Ve xs (0,4294967295)=Ve (xs.drop (i+1)) (max f x.1,min u x.2):=by rw[a,g,Ve,Qe (show ¬x.2<x.1 by omega)]
    refine ZY 2 (Zv (Za ef ef) (ZY 2 ?_));exact ZX (q-1) (⟨i+1,max f x.1,min u x.2,Qb,Qb,Qb,Qb,n,rfl,rfl⟩) Qb
  ·have d:Vb xs=if u<f then 0 else u-f+1:=by
    unfold Vb;rw[Qe p,a,show i=xs.length by omega,List.drop_length];rfl
   refine ZY 8 ?_
   refine Zj ef (fun C=>?_) (fun C=>?_)
   ·have h0:Vb xs=0:=by rw[d,Qh Qb]
    refine ZY 5 ?_;exact Zf ef Zq (⟨by rw[h0];rfl,rfl⟩)
   ·have h0:(Vb xs:Int)=(u:Int)-(f:Int)+1:=by rw[d,Qe Qb];omega
    refine ZY 5 (Zv (Zm ef ef) ?_);refine Zv (Vu Tryz.it3.h (by rw[Tryz.underlying31];rfl) rfl (Xy Qb Qb)) (Zv (Za ef ef) (ZY 3 ?_));exact Zf ef Zq (⟨by rw[h0];rfl,rfl⟩)
theorem Qme:∀ {l m:List Int},l.Perm m→l.Pairwise (·≤·)→m.Pairwise (· < ·)→l=m:=by
 intro l m h d c;exact h.eq_of_pairwise (fun a b _ _ f e=>Qvv f e) d (c.imp fun h=>Int.le_of_lt h)
abbrev pts(ps:Nat→Nat)(js:List Bj):List Value:=js.map fun x=>pt (ps x.id)
theorem Qip(b:Nat)(st:Br)(ps:Nat→Nat):Spec Tryz.prog 50 [pt b] [BP b st ps] fun n v k=>∃a:SV,v=a.v∧a.n=st.js.length∧k=own a 86 1 (pts ps st.js)::BP b st ps::n:=by
 refine Spec.J3 fun d=>?_;refine Zbd Tryz.func50 rfl Tryz.ntmps50 fun N n=>Zsh ?_;have T:=d.Dk;refine S.W5 b st ps fun w jb y ov z A mv sb l j=>?_;have r:l.length≤65535:=by rw[j.perm.length_eq,Qo];omega
 refine ZY 8 (ZY 7 (Zp (Zc1 Ze (Q8y jb) ?_)));rintro v k ⟨c,rfl,rfl⟩;refine Zp (Zc1 Ze (Qr5 c jb l r) ?_);rintro v k ⟨sv,xs,rfl,U,K,o,rfl⟩
 have g:xs=st.js.map fun x=>(x.id:Int):=by
  refine Qme (K.trans ?_) o ?_
  ·have:=j.perm.map (·.1);rw[Kk]at this;exact this
  ·exact Ww.2 (d.Y4.imp fun h=>Qb)
 have R:xs.length=st.js.length:=by rw[g,Qo]
 have J:xs.map kv=st.js.map fun x=>Value.int .u32 (x.id:Int):=by rw[g,Kk];rfl
 rw[J];refine S.Xn sv fun F V E=>?_;have D:maxLen≤9223372036854775807:=by unfold maxLen;omega
 refine S.Qs (show Ent _ (own SV.nil 86 1 (pts ps (st.js.take 0))::_) from Ent.Xb 86 1) (ZY 4 ?_);refine Zl (fun q e f=>∃(i:Nat) (a:SV),q=st.js.length-i∧i≤st.js.length∧a.n=i∧e=[(0,pt b),(3,a.v),(11,sv.v),(12,.int .i64 (sv.n:Int)),(13,.int .i64 (i:Int))]∧f=own a 86 1 (pts ps (st.js.take i))::own sv 31 1 (st.js.map fun x=>Value.int .u32 (x.id:Int))::bX b st ps w jb y ov z A mv sb l n) (m:=_) (⟨0,SV.nil,rfl,Qb,rfl,rfl,rfl⟩) ?_;rintro q e f ⟨i,a,P,Q,G,rfl,rfl⟩;refine ZY 5 ?_
 refine Zj ef (fun H=>?_) (fun H=>?_)
 ·refine S.Q7 sv Qb fun C O B _ _ _=>?_;obtain⟨x,p⟩:=Xs (show i<st.js.length by omega);have M:st.js.take (i+1)=st.js.take i++[x]:=by rw[X2,p];rfl
  have L:Qk st.js x.id=some x:=Ys d.Y4 (Yn p);refine ZY 5 (Zv (Zx (i) ef (B) ef Qb) ?_);refine Zv (Zo (sv) (i) ef (B) (by rw[Q8,p];rfl)) ?_;refine ZY 8 (Zy ?_);refine Zv (Qx (pt (ps x.id)) Tryz.underlying82 Tryz.underlying31 Tryz.Jv.h rfl rfl rfl (by rw[Un d.Y4 j.perm,L];rfl)) ?_;refine Zp (S.buildSlice (pvs:=[(_,_)]) [_] Tryz.underlying99 Tryz.Qx6.h rfl rfl ⟨⟨rfl,rfl⟩,trivial⟩ rfl rfl ?_);intro t;refine Zp (S.Z6 (s:=a) (1) ([pt (ps x.id)]) Tryz.underlying99 Tryz.Qx6.h rfl rfl rfl (Yb (b:=t) rfl (by unfold maxLen;omega)) (by first|rfl|exact Qw _) (⟨Qb,Qb⟩) rfl ?_);intro u I;rw[show pts ps (st.js.take i)++[pt (ps x.id)]=pts ps (st.js.take (i+1)) by rw[M];simp];refine ZY 3 (Zv (Za ef ef) (ZY 2 ?_));exact ZX (q-1) (⟨i+1,u,Qb,Qb,Qb,rfl,rfl⟩) Qb
 ·rw[show i=st.js.length by omega,Wh];refine ZY 7 (S.Yk b st ps w jb y ov z A mv sb l j ?_);exact Zf ef Zq (⟨a,rfl,Qb,rfl⟩)
theorem wrap32(n:Nat):IntKind.u32.wrap ((n:Int)+1)=((u32 (n+1):Nat):Int):=by
 simp only[IntKind.wrap,IntKind.bits,IntKind.signed,Qou,Qot,Td];show ((n:Int)+1) % 4294967296=(((n+1) % 4294967296:Nat):Int);omega
theorem Qo5(m:Nat):X8 [.slice none 0 0] m=(List.replicate m ((SV.nil,[]):Bb)).map bbV:=by
 induction m with
 | zero=>rfl
 | succ m a=>rw[Qdh,Z7,←a];rfl
theorem Q8m(m:Nat)(Γ:List Assn):Ent Γ (alls (List.replicate m ((SV.nil,[]):Bb)) bbB::Γ):=by
 induction m with
 | zero=>exact Ent.Fk _ _
 | succ m a=>
  rw[Qdh];exact(a.trans (show Ent _ (bbB (SV.nil,[])::_) from Ent.Xb 5 1)).trans (Ent.Cu bbB _ _ _)
theorem Ent.Q79(v:SV)(m:Nat)(Γ:List Assn):Ent (own v 22 1 (X8 [.slice none 0 0] m)::Γ) (blobs v (List.replicate m [])::Γ):=by
 have a:Ent (own v 22 1 (X8 [.slice none 0 0] m)::Γ) (own v 22 1 ((List.replicate m ((SV.nil,[]):Bb)).map bbV)::alls (List.replicate m ((SV.nil,[]):Bb)) bbB::Γ):=by
  rw[Qo5];exact(Q8m m Γ).cons _
 refine a.trans ((Ent.pack [_,_] Γ).trans (Ent.Kg Γ fun _ s=>⟨_,?_,s⟩));rw[List.map_replicate]
theorem Q48(l:List Nat):l.map (fun _=>([]:List Int))=List.replicate l.length []:=List.map_const' ..
section
variable {n:Nat}{md:Bool}{w0:WM md}{ρ:Env}{Γ Δ:List Assn}{φ:Act→World→Prop}
theorem S.Qf8(q a:Nat)(v:SV)(id ver Qg:Nat)(b:List Nat)(bs:List (List Int))[p:Picks [blk q 131 #[.int .u32 (id:Int),.int .u32 (ver:Int),.int .i64 (Qg:Int),v.v,.map (some a),.bool false],Qz a .i64 (Vo b),blobs v bs] Γ Δ](k:S n w0 ρ (Jw (some q) id (some ⟨ver,Qg,b,false,bs⟩)::Δ) φ):S n w0 ρ Γ φ:=
 S.Qs (p.Qs.trans ((Ent.pack [_,_,_] Δ).trans (Ent.Kg Δ fun _ s=>⟨a,v,s⟩))) k
theorem S.Qmj(q a:Nat)(v:SV)(id ver Qg:Nat)(b:List Nat)(bs:List (List Int))[p:Picks [blk q 131 #[.int .u32 (id:Int),.int .u32 (ver:Int),.int .i64 (Qg:Int),v.v,.map (some a),.bool true],Qz a .i64 (Vo b)] Γ Δ](k:S n w0 ρ (Jw (some q) id (some ⟨ver,Qg,b,true,bs⟩)::Δ) φ):S n w0 ρ Γ φ:=
 S.Qs (p.Qs.trans ((((show Ent Δ ((fun _=>True)::Δ) from fun h c=>⟨HL.emp,h,HL.J2 _,HL.Hm _,HL.le.refl _,trivial,c⟩).cons _).cons _).trans ((Ent.pack [_,_,fun _=>True] Δ).trans (Ent.Kg Δ fun _ s=>⟨a,v,s⟩)))) k
theorem S.Qmk(q:Nat)(id:Nat)(s:Sv)[p:Pick (Jw (some q) id (some s)) Γ Δ](k:∀(b:Nat) (v:SV),S n w0 ρ (blk q 131 #[.int .u32 (id:Int),.int .u32 (s.ver:Int),.int .i64 (s.Qg:Int),v.v,.map (some b),.bool s.told]::Qz b .i64 (Vo s.have_)::(if s.told then (fun _=>True) else blobs v s.bs)::Δ) φ):S n w0 ρ Γ φ:=by
 intro a w j i h;obtain⟨h0,g,m,l,d,f,e,⟨b,v,q1⟩,c⟩:=i.Qs p.Qs;exact k b v a w j ⟨h0,g,(Ent.unpack [_,_,_] Δ) _ ⟨m,l,d,f,e,q1,c⟩⟩ h
end
abbrev Wt(x:Bj):Bj:={x with ver:=u32 (x.ver+1),Xg:=some ⟨u32 (x.ver+1),x.work,[],false,x.at_.map fun _=>[]⟩}
theorem JOk.Wt{N:Nat}{x:Bj}(h:JOk N x):JOk N (Wt x):=⟨h.P3,h.Rx,h.tier,h.k1,h.kn,h.w,h.cr,h.wk,h.Uy,h.at_,h.drop,h.lod,h.X4,h.ld,fun s a=>(by cases a;exact⟨Qo ..,h.wk⟩)⟩
theorem V3{st:Br}{x:Bj}(h:x.work=x.Qg∨x.Xg.isSome∨x.Ql.isSome∨x.state≠2):Xv st x=st.set x:=by rw[Xv,Qh h]
theorem Ua{st:Br}{x:Bj}(h:¬(x.work=x.Qg∨x.Xg.isSome∨x.Ql.isSome∨x.state≠2)):Xv st x=Br.set {st with Qd:=st.Qd++x.at_.map (W8 (Wt x))} (Wt x):=by rw[Xv,Qe h]
theorem Qpv{st:Br}(h:Yu st){x:Bj}(a:JOk st.nodes x):Yu (Xv st x):=by
 by_cases b:x.work=x.Qg∨x.Xg.isSome∨x.Ql.isSome∨x.state≠2
 ·rw[V3 b];exact h.set a
 ·rw[Ua b];exact(h.oset _).set (x:=BN.Wt x) a.Wt
theorem Qf7(st:Br)(x:Bj):(Xv st x).Qd.length≤st.Qd.length+x.at_.length∧(Xv st x).Qf=st.Qf∧(Xv st x).done=st.done∧(Xv st x).nodes=st.nodes:=by
 by_cases a:x.work=x.Qg∨x.Xg.isSome∨x.Ql.isSome∨x.state≠2
 ·rw[V3 a];exact⟨by show st.Qd.length≤_;omega,rfl,rfl,rfl⟩
 ·rw[Ua a];exact⟨by show (st.Qd++_).length≤_;rw[Yd,Qo];omega,rfl,rfl,rfl⟩
theorem Q3m(st:Br){x y:Bj}(h:x.id=y.id):Xv (st.set x) y=Xv st y:=by
 by_cases a:y.work=y.Qg∨y.Xg.isSome∨y.Ql.isSome∨y.state≠2
 ·rw[V3 a,V3 a];exact set_set st h
 ·rw[Ua a,Ua a];exact set_set {st with Qd:=st.Qd++y.at_.map (W8 (Wt y))} (x:=x) (y:=Wt y) h
theorem Q3n(b:Nat)(st:Br)(ps:Nat→Nat)(x:Bj)(hx:Qk st.js x.id=some x)(hl:st.Qd.length≤900000):Spec Tryz.prog 87 [pt b,pt (ps x.id)] [BP b st ps] fun Γ _ U=>U=BP b (Xv st x) ps::Γ:=by
 refine Spec.J3 fun G=>?_;have N:=G.at_ hx;have hN:=G.Ra;have a2:=N.len;refine Spec.Ht Tryz.func87 rfl Tryz.ntmps87 rfl ?_;intro w0 Γ;show S _ w0 [(0,pt b),(1,pt (ps x.id))] (BP b st ps::Γ) _;refine S.Uu b st ps x hx fun u jb w ov z A mv sb l i a lb I rb L t M Yr a1 r=>?_
 by_cases V:x.work=x.Qg
 ·have F:Xv st x=st.set x:=V3 (.inl V);refine ZS (ZY 2 ?_);refine Zd ([blk (ps x.id) 90 (bjC x a lb I rb L).toArray]) [] (Zra 0 11) (ZY 8 (ZY 3 (Zu 16 true ef ((Zh (by rw[V]))) ?_)));refine Zr (Zra 11 21) (ZY 8 (ZY 8 (ZY 5 ?_)));refine ZD (ZY 2 (S.Q0 b st ps u jb w ov z A mv sb l i x a lb I rb L M rfl (Yr x rfl) (t.set N) r ?_));exact Zf ef Zq (by rw[F])
 have K:decide ((x.work:Int)=(x.Qg:Int))=false:=Q6 Qb;cases R:x.Xg with
 | some s=>
  have F:Xv st x=st.set x:=V3 (.inr (.inl (by rw[R];rfl)));obtain⟨q,X⟩:∃q,L=some q:=by have:=r.s;rw[R]at this;cases L with|none=>cases this|some q=>exact⟨q,rfl⟩
  subst X;refine ZS (ZY 2 ?_);refine Zd ([blk (ps x.id) 90 (bjC x a lb I rb (some q)).toArray]) [] (Zra 0 11) (ZY 8 (ZY 3 (Zu 16 false ef (K) ?_)));refine Zr (Zra 11 7) (ZY 7 ?_);refine Zr (Zra 18 14) (ZY 8 (ZY 6 ?_));refine ZD (ZY 2 (S.Q0 b st ps u jb w ov z A mv sb l i x a lb I rb (some q) M rfl (Yr x rfl) (t.set N) r ?_));exact Zf ef Zq (by rw[F])
 | none=>
 have W:L=none:=by have:=r.s;rw[R]at this;cases L with|none=>rfl|some q=>cases this
 subst W;cases T:x.Ql with
 | some d=>
  have F:Xv st x=st.set x:=V3 (.inr (.inr (.inl (by rw[T];rfl))));obtain⟨q,X⟩:∃q,I=some q:=by have:=r.d;rw[T]at this;cases I with|none=>cases this|some q=>exact⟨q,rfl⟩
  subst X;refine ZS (ZY 2 ?_);refine Zd ([blk (ps x.id) 90 (bjC x a lb (some q) rb none).toArray]) [] (Zra 0 11) (ZY 8 (ZY 3 (Zu 16 false ef (K) ?_)));refine Zr (Zra 11 7) (ZY 7 ?_);refine Zr (Zra 18 7) (ZY 4 ?_);refine Zwg ef ef ef ef (F7 Tryz.underlying81 rfl rfl) (ZY 2 ?_);refine Zr (Zra 25 7) (ZY 7 ?_);refine ZD (ZY 2 (S.Q0 b st ps u jb w ov z A mv sb l i x a lb (some q) rb none M rfl (Yr x rfl) (t.set N) r ?_));exact Zf ef Zq (by rw[F])
 | none=>
  have Z:I=none:=by have:=r.d;rw[T]at this;cases I with|none=>rfl|some q=>cases this
  subst Z;have P:=r.an;obtain⟨p,o⟩:∃p:Bj,p=Wt x:=⟨_,rfl⟩;have Nv:JOk st.nodes p:=by rw[o];exact N.Wt
  have H:p.id=x.id:=by rw[o]
  refine ZS (ZY 2 ?_);refine Zd ([blk (ps x.id) 90 (bjC x a lb none rb none).toArray]) [] (Zra 0 11) (ZY 8 (ZY 3 (Zu 16 false ef (K) ?_)));refine Zr (Zra 11 7) (ZY 7 ?_);refine Zr (Zra 18 7) (ZY 4 ?_);refine Zwg ef ef ef ef (F7 Tryz.underlying81 rfl rfl) (ZY 2 ?_);refine Zr (Zra 25 7) (ZY 7 ?_);refine ZD ?_
  refine Zj ef (fun h1=>?_) (fun h1=>?_)
  ·have F:Xv st x=st.set x:=V3 (.inr (.inr (.inr Qb)));refine Zy (S.Q0 b st ps u jb w ov z A mv sb l i x a lb none rb none M rfl (Yr x rfl) (t.set N) r ?_);exact Zf ef Zq (by rw[F])
  ·have F:Xv st x=Br.set {st with Qd:=st.Qd++x.at_.map (W8 p)} p:=by
    rw[o];refine Ua fun h=>?_
    rcases h with h|h|h|h
    ·exact V h
    ·rw[R]at h;cases h
    ·rw[T]at h;cases h
    ·exact h Qb
   refine ZY 7 (Zv (Q4e rfl rfl) ?_);rw[wrap32];refine ZY 5 ?_;refine Zd ([blk (ps x.id) 90 (bjC {x with ver:=u32 (x.ver+1)} a lb none rb none).toArray]) [26] (Zra 0 19) (ZY 8 (ZY 8 (ZY 3 ?_)))
   refine Z2 (i:=19) (j:=21) ef ef ef ?_ ?_
   ·refine(S.makeSlice (a.n) (a.n) Tryz.underlying58 Tryz.Zfa.h rfl rfl rfl rfl rfl Qb Qb rfl ?_);intro E a0;refine Zk [20] ?_;refine Zw ef (Ye (pvs:=[(_,_),(_,_),(_,_),(_,_)]) [_,_,_,_] Tryz.z60.h Tryz.p60.h ⟨⟨rfl,rfl⟩,⟨rfl,rfl⟩,⟨rfl,rfl⟩,⟨rfl,rfl⟩,trivial⟩ rfl) ?_;refine Z1 (i:=21) ef ef ?_;refine(S.makeMap .i64 rfl ?_);intro g;refine Zk [22] ?_;refine Zw ef (Ye (pvs:=[(_,_),(_,_)]) [_,_,_,_,_,_] Tryz.z131.h Tryz.Zle.h ⟨⟨rfl,rfl⟩,⟨rfl,rfl⟩,trivial⟩ rfl) ?_;refine Z1 (i:=23) ef ef ?_;refine(S.box (cs:=[_,_,_,_,_,_]) rfl rfl rfl ?_);intro c;refine S.conv (Qz g .i64 []) (show Ent _ (Qz g .i64 (Vo [])::_) from Ent.refl _) ?_;refine Zk [24,25] (ZY 2 ?_);refine Z1 (i:=26) ef ef ?_;refine(S.store (cs':=[_,_,_,_,_,_,_,_,_,_,_,_,_,_,_,_,_]) Eo.h rfl rfl rfl rfl rfl ?_);refine ZL ([]) [] ?_;refine ZD (ZY 2 (S.X7 (ps x.id) (bjC {x with ver:=u32 (x.ver+1)} a lb none rb (some c)).toArray rfl (ZY 8 ?_)));refine Zl (fun k B C=>∃(e:Nat) (os:List Od) (f:SV),k=x.at_.length-e∧e≤x.at_.length∧os=st.Qd++(x.at_.take e).map (W8 p)∧f.n=os.length∧B=[(0,pt b),(1,pt (ps x.id)),(74,a.v),(75,.int .i64 (a.n:Int)),(76,.int .i64 (e:Int))] ∧   C=blk (ps x.id) 90 (bjC {x with ver:=u32 (x.ver+1)} a lb none rb (some c)).toArray::blk c 131 #[.int .u32 (x.id:Int),.int .u32 (u32 (x.ver+1):Nat),.int .i64 (x.work:Int),E.v,.map (some g),.bool false]::Qz g .i64 (Vo [])::own E 22 1 (X8 [.slice none 0 0] a.n)::own a 3 1 (nds x.at_)::Vp lb x.Xt::Vp none x.Ql::M6 rb x.X4::blk b 84 (bC st u jb w f z A mv sb).toArray::Qz u .i64 (Vo st.up)::Qz jb .u32 l::jT ps st.js i::jD ps st.js i::MI w st.m::own f 97 14 (os.flatMap odC)::imgs z st.Qf::own A 31 1 (Yp st.done)::own mv 31 1 (Yp st.members)::Vp sb st.stops::Γ) (m:=_) (⟨0,st.Qd,ov,rfl,Qb,Q2,t.on,rfl,rfl⟩) ?_;rintro k B C ⟨e,os,f,hk,he,n,Q,rfl,rfl⟩;have Y:os.length≤900016:=by rw[n,Yd,Qo,V9];omega
    refine ZY 5 ?_
    refine Zj ef (fun h2=>?_) (fun h2=>?_)
    ·refine S.Q7 a Qb fun ab ao D _ _ _=>?_;obtain⟨y,O⟩:=Xs (show e<x.at_.length by omega);have Fh:x.at_.take (e+1)=x.at_.take e++[y]:=by rw[X2,O];rfl
     have A5:os++[((y,{kind:=8,Qu:=x.id,ver:=u32 (x.ver+1),Qg:=x.work}):Od)]=st.Qd++(x.at_.take (e+1)).map (W8 p):=by rw[n,Fh,Vc,Wb,o];rfl
     refine ZY 5 (Zv (Zx (e) ef (D) ef Qb) ?_);refine Zv (Zo (a) (e) ef (D) (by rw[Q8,O];rfl)) ?_;refine ZY 2 ?_;refine Zd ([blk (ps x.id) 90 (bjC {x with ver:=u32 (x.ver+1)} a lb none rb (some c)).toArray]) [] (Zra 0 16) (ZY 8 (ZY 7 ?_));refine Zw ef (Ye (pvs:=[(_,_),(_,_),(_,_),(_,_)]) [_,_,_,_,_,_,_,_,_,_,_,_,_] Tryz.z72.h Tryz.p72.h ⟨⟨rfl,rfl⟩,⟨rfl,rfl⟩,⟨rfl,rfl⟩,⟨rfl,rfl⟩,trivial⟩ rfl) ?_;refine Z1 (i:=16) ef ef ?_;refine  (Zc1 Ze (Bp b st u jb w f z A mv sb y {kind:=8,Qu:=x.id,ver:=u32 (x.ver+1),Qg:=x.work} os Q Qb) ?_);rintro v U ⟨J,N6,rfl⟩;refine Zk [] ?_;refine ZD (Zy (Zv (Za ef ef) (ZY 2 ?_)));exact ZX (k-1) (⟨e+1,os++[((y,{kind:=8,Qu:=x.id,ver:=u32 (x.ver+1),Qg:=x.work}):Od)],J,Qb,Qb,A5,N6,rfl,rfl⟩) Qb
    ·rw[show e=x.at_.length by omega,Wh]at n;refine Zy (S.X7 (ps x.id) (bjC p a lb none rb (some c)).toArray (by rw[o]) (S.conv (own E 22 1 (X8 [.slice none 0 0] a.n)) (Ent.Q79 E a.n _) ?_));rw[show List.replicate a.n ([]:List Int)=x.at_.map fun _=>[] by rw[Q48,P]];refine S.Qf8 c g E x.id (u32 (x.ver+1)) x.work [] (x.at_.map fun _=>[]) ?_;refine S.sub (jX (ps x.id) p a lb none rb (some c) (bR b {st with Qd:=os} ps u jb w f z A mv sb l i Γ)) (e:=by subst o;infer_instance) ?_;refine S.Q0 b {st with Qd:=os} ps u jb w f z A mv sb l i p a lb none rb (some c) M H (Yr p H) (BF.set (st:={st with Qd:=os}) ⟨G.oset os,t.perm,Q,t.im,t.dn,t.mn,t.sn⟩ Nv) ⟨by rw[o];exact r.an,by rw[o];exact r.l,by rw[o];exact r.d,by rw[o];exact r.r,by rw[o];rfl⟩ ?_;exact Zfn ef Zq (by rw[F,←n])
   ·refine(S.makeMap .i64 rfl ?_);intro g;refine Zk [] ?_;refine Z1 (i:=19) ef ef ?_;refine(S.makeSlice (a.n) (a.n) Tryz.underlying58 Tryz.Zfa.h rfl rfl rfl rfl rfl Qb Qb rfl ?_);intro E a0;refine Zk [20,22] ?_;refine Zw ef (Ye (pvs:=[(_,_),(_,_),(_,_),(_,_)]) [_,_,_,_] Tryz.z60.h Tryz.p60.h ⟨⟨rfl,rfl⟩,⟨rfl,rfl⟩,⟨rfl,rfl⟩,⟨rfl,rfl⟩,trivial⟩ rfl) ?_;refine Zw ef (Ye (pvs:=[(_,_),(_,_)]) [_,_,_,_,_,_] Tryz.z131.h Tryz.Zle.h ⟨⟨rfl,rfl⟩,⟨rfl,rfl⟩,trivial⟩ rfl) ?_;refine Z1 (i:=23) ef ef ?_;refine(S.box (cs:=[_,_,_,_,_,_]) rfl rfl rfl ?_);intro c;refine S.conv (Qz g .i64 []) (show Ent _ (Qz g .i64 (Vo [])::_) from Ent.refl _) ?_;refine Zk [24,25] (ZY 2 ?_);refine Z1 (i:=26) ef ef ?_;refine(S.store (cs':=[_,_,_,_,_,_,_,_,_,_,_,_,_,_,_,_,_]) Eo.h rfl rfl rfl rfl rfl ?_);refine ZL ([]) [] ?_;refine ZD (ZY 2 (S.X7 (ps x.id) (bjC {x with ver:=u32 (x.ver+1)} a lb none rb (some c)).toArray rfl (ZY 8 ?_)));refine Zl (fun k B C=>∃(e:Nat) (os:List Od) (f:SV),k=x.at_.length-e∧e≤x.at_.length∧os=st.Qd++(x.at_.take e).map (W8 p)∧f.n=os.length∧B=[(0,pt b),(1,pt (ps x.id)),(74,a.v),(75,.int .i64 (a.n:Int)),(76,.int .i64 (e:Int))] ∧   C=blk (ps x.id) 90 (bjC {x with ver:=u32 (x.ver+1)} a lb none rb (some c)).toArray::blk c 131 #[.int .u32 (x.id:Int),.int .u32 (u32 (x.ver+1):Nat),.int .i64 (x.work:Int),E.v,.map (some g),.bool false]::Qz g .i64 (Vo [])::own E 22 1 (X8 [.slice none 0 0] a.n)::own a 3 1 (nds x.at_)::Vp lb x.Xt::Vp none x.Ql::M6 rb x.X4::blk b 84 (bC st u jb w f z A mv sb).toArray::Qz u .i64 (Vo st.up)::Qz jb .u32 l::jT ps st.js i::jD ps st.js i::MI w st.m::own f 97 14 (os.flatMap odC)::imgs z st.Qf::own A 31 1 (Yp st.done)::own mv 31 1 (Yp st.members)::Vp sb st.stops::Γ) (m:=_) (⟨0,st.Qd,ov,rfl,Qb,Q2,t.on,rfl,rfl⟩) ?_;rintro k B C ⟨e,os,f,hk,he,n,Q,rfl,rfl⟩;have Y:os.length≤900016:=by rw[n,Yd,Qo,V9];omega
    refine ZY 5 ?_
    refine Zj ef (fun h2=>?_) (fun h2=>?_)
    ·refine S.Q7 a Qb fun ab ao D _ _ _=>?_;obtain⟨y,O⟩:=Xs (show e<x.at_.length by omega);have Fh:x.at_.take (e+1)=x.at_.take e++[y]:=by rw[X2,O];rfl
     have A5:os++[((y,{kind:=8,Qu:=x.id,ver:=u32 (x.ver+1),Qg:=x.work}):Od)]=st.Qd++(x.at_.take (e+1)).map (W8 p):=by rw[n,Fh,Vc,Wb,o];rfl
     refine ZY 5 (Zv (Zx (e) ef (D) ef Qb) ?_);refine Zv (Zo (a) (e) ef (D) (by rw[Q8,O];rfl)) ?_;refine ZY 2 ?_;refine Zd ([blk (ps x.id) 90 (bjC {x with ver:=u32 (x.ver+1)} a lb none rb (some c)).toArray]) [] (Zra 0 16) (ZY 8 (ZY 7 ?_));refine Zw ef (Ye (pvs:=[(_,_),(_,_),(_,_),(_,_)]) [_,_,_,_,_,_,_,_,_,_,_,_,_] Tryz.z72.h Tryz.p72.h ⟨⟨rfl,rfl⟩,⟨rfl,rfl⟩,⟨rfl,rfl⟩,⟨rfl,rfl⟩,trivial⟩ rfl) ?_;refine Z1 (i:=16) ef ef ?_;refine  (Zc1 Ze (Bp b st u jb w f z A mv sb y {kind:=8,Qu:=x.id,ver:=u32 (x.ver+1),Qg:=x.work} os Q Qb) ?_);rintro v U ⟨J,N6,rfl⟩;refine Zk [] ?_;refine ZD (Zy (Zv (Za ef ef) (ZY 2 ?_)));exact ZX (k-1) (⟨e+1,os++[((y,{kind:=8,Qu:=x.id,ver:=u32 (x.ver+1),Qg:=x.work}):Od)],J,Qb,Qb,A5,N6,rfl,rfl⟩) Qb
    ·rw[show e=x.at_.length by omega,Wh]at n;refine Zy (S.X7 (ps x.id) (bjC p a lb none rb (some c)).toArray (by rw[o]) (S.conv (own E 22 1 (X8 [.slice none 0 0] a.n)) (Ent.Q79 E a.n _) ?_));rw[show List.replicate a.n ([]:List Int)=x.at_.map fun _=>[] by rw[Q48,P]];refine S.Qf8 c g E x.id (u32 (x.ver+1)) x.work [] (x.at_.map fun _=>[]) ?_;refine S.sub (jX (ps x.id) p a lb none rb (some c) (bR b {st with Qd:=os} ps u jb w f z A mv sb l i Γ)) (e:=by subst o;infer_instance) ?_;refine S.Q0 b {st with Qd:=os} ps u jb w f z A mv sb l i p a lb none rb (some c) M H (Yr p H) (BF.set (st:={st with Qd:=os}) ⟨G.oset os,t.perm,Q,t.im,t.dn,t.mn,t.sn⟩ Nv) ⟨by rw[o];exact r.an,by rw[o];exact r.l,by rw[o];exact r.d,by rw[o];exact r.r,by rw[o];rfl⟩ ?_;exact Zfn ef Zq (by rw[F,←n])
abbrev Em(x:Bj):Bj:={x with X4:=none}
abbrev Dw(x:Bj)(r:List Rn):Bj:={x with X4:=none,work:=min (x.work+Vb (r.map (·.2))) x.w}
theorem JOk.Em{N:Nat}{x:Bj}(h:JOk N x):JOk N (Em x):=⟨h.P3,h.Rx,h.tier,h.k1,h.kn,h.w,h.cr,h.wk,h.Uy,h.at_,h.drop,h.lod,fun r a=>(by cases a),h.ld,h.svl⟩
theorem JOk.Dw{N:Nat}{x:Bj}(h:JOk N x)(r:List Rn):JOk N (Dw x r):=⟨h.P3,h.Rx,h.tier,h.k1,h.kn,h.w,h.cr,Qi5 ..,h.Uy,h.at_,h.drop,h.lod,fun r a=>(by cases a),h.ld,h.svl⟩
theorem Q1s{st:Br}(h:Yu st){x:Bj}(a:JOk st.nodes x):Yu (Y9 st x):=by
 unfold Y9
 split
 ·exact h.set a
 ·split
  ·exact h.set (x:=BN.Em x) a.Em
  ·exact Qpv h (x:=BN.Dw x _) (a.Dw _)
theorem Qrs(st:Br)(x:Bj):(Y9 st x).Qd.length≤st.Qd.length+x.at_.length∧(Y9 st x).Qf=st.Qf∧(Y9 st x).done=st.done∧(Y9 st x).nodes=st.nodes:=by
 unfold Y9
 split
 ·exact⟨by show st.Qd.length≤_;omega,rfl,rfl,rfl⟩
 ·split
  ·exact⟨by show st.Qd.length≤_;omega,rfl,rfl,rfl⟩
  ·exact Qf7 st (Dw x _)
theorem Ent.Ze2{q:Nat}{s:Option (List Rn)}{r:List Rn}(h:s=some r)(Γ:List Assn):Ent (M6 (some q) s::Γ) (Qz q .i64 (Cc r)::Γ):=by rw[h];exact Ent.refl _
theorem Ent.Zli{q:Nat}{s:Option (List Rn)}{r:List Rn}(h:s=some r)(Γ:List Assn):Ent (Qz q .i64 (Cc r)::Γ) (M6 (some q) s::Γ):=by rw[h];exact Ent.refl _
theorem Qn4(b:Nat)(st:Br)(ps:Nat→Nat)(x:Bj)(I:Qk st.js x.id=some x)(Z:st.Qd.length≤900000):Spec Tryz.prog 95 [pt b,pt (ps x.id)] [BP b st ps] fun Γ _ p=>p=BP b (Y9 st x) ps::Γ:=by
 refine Spec.J3 fun B=>?_;have o:=B.at_ I;have hN:=B.Ra;have a1:=o.len;refine Spec.Ht Tryz.func95 rfl Tryz.ntmps95 rfl ?_;intro w0 Γ;show S _ w0 [(0,pt b),(1,pt (ps x.id))] (BP b st ps::Γ) _;refine S.Uu b st ps x I fun u jb w ov A C mv sb l i k lb t rb j F D Yr W f=>?_;cases n:x.X4 with
 | none=>
  have s:Y9 st x=st.set x:=by rw[Y9,n]
  have K:rb=none:=by have:=f.r;rw[n]at this;cases rb with|none=>rfl|some q=>cases this
  subst K;refine ZS (ZY 8 (ZY 8 (Zy ?_)));refine Zd ([blk (ps x.id) 90 (bjC x k lb t none j).toArray]) [] [0,1,2] (Zy ?_);refine Zw ef (Hz Tryz.underlying88 rfl rfl) (Zy ?_);refine Zr (Zra 3 16) (ZY 8 (ZY 8 ?_));refine ZD (ZY 2 (S.Q0 b st ps u jb w ov A C mv sb l i x k lb t none j D rfl (Yr x rfl) (F.set o) f ?_));exact Zf ef Zq (by rw[s])
 | some r=>
 obtain⟨q,Y⟩:∃q,rb=some q:=by have:=f.r;rw[n]at this;cases rb with|none=>cases this|some q=>exact⟨q,rfl⟩
 subst Y;cases E:x.Ql with
 | some d=>
  have s:Y9 st x=st.set (Em x):=by rw[Y9,n];exact Qh (.inl (by rw[E];rfl))
  obtain⟨P,L⟩:∃q,t=some q:=by have:=f.d;rw[E]at this;cases t with|none=>cases this|some q=>exact⟨q,rfl⟩
  subst L;refine ZS (ZY 8 (ZY 8 (Zy ?_)));refine Zd ([blk (ps x.id) 90 (bjC (Em x) k lb (some P) none j).toArray]) [] [0,1,2] (Zy ?_);refine Zw ef (Hz Tryz.underlying88 rfl rfl) (Zy ?_);refine Zr (Zra 3 7) (ZY 4 ?_);refine Zwg ef ef ef ef (F7 Tryz.underlying81 rfl rfl) (ZY 2 ?_);refine Zr (Zra 10 9) (ZY 8 (Zy ?_));refine ZD (ZY 2 (S.Qs (Qae _) ?_));refine S.Q0 b st ps u jb w ov A C mv sb l i (Em x) k lb (some P) none j D rfl (Yr (Em x) rfl) (F.set o.Em) ⟨f.an,f.l,f.d,rfl,f.s⟩ ?_;exact Zf ef Zq (by rw[s])
 | none=>
  have N:t=none:=by have:=f.d;rw[E]at this;cases t with|none=>rfl|some q=>cases this
  subst N;have a0:=f.an;have X:(Cc r).length=r.length:=Qo ..;refine S.conv (M6 (some q) x.X4) (Ent.Ze2 n _) ?_;obtain⟨a,g⟩:∃a:Bj,a=Dw x r:=⟨_,rfl⟩;have Nv:JOk st.nodes a:=by rw[g];exact o.Dw r
  have m:a.id=x.id:=by rw[g]
  have J:a.work=min (x.work+Vb (r.map (·.2))) x.w:=by rw[g]
  have H:Qk (st.set a).js a.id=some a:=Bu st (by rw[m];exact I)
  have O:Spec Tryz.prog 87 [pt b,pt (ps x.id)] [BP b (st.set a) ps] fun Γ _ p=>p=BP b (Xv (st.set a) a) ps::Γ:=by
   rw[←m];exact Q3n b _ ps a H Z
  refine ZS (ZY 8 (ZY 8 (Zy ?_)));refine Zd ([blk (ps x.id) 90 (bjC (Em x) k lb none none j).toArray,Qz q .i64 (Cc r)]) [] [0,1,2] (Zy ?_);refine Zw ef (Hz Tryz.underlying88 rfl rfl) (Zy ?_);refine Zr (Zra 3 7) (ZY 4 ?_);refine Zwg ef ef ef ef (F7 Tryz.underlying81 rfl rfl) (ZY 2 ?_);refine Zr (Zra 10 9) (ZY 8 (Zy ?_));refine ZD ?_
  refine Zj ef (fun h1=>?_) (fun h1=>?_)
  ·have s:Y9 st x=st.set (Em x):=by rw[Y9,n];exact Qh (.inr Qb)
   refine Zy (S.Qs (Qae _) ?_);refine S.Q0 b st ps u jb w ov A C mv sb l i (Em x) k lb none none j D rfl (Yr (Em x) rfl) (F.set o.Em) ⟨f.an,f.l,f.d,rfl,f.s⟩ ?_;exact Zf ef Zq (by rw[s])
  ·have s:Y9 st x=Xv st a:=by
    rw[g,Y9,n]
    exact Qe (fun h=>by
     rcases h with h|h
     ·rw[E]at h;cases h
     ·exact h Qb)
   refine ZY 4 (Zp (Zc1 Ze (Q8t q) ?_));rintro v p ⟨c,rfl,rfl⟩;refine Zp (Zc1 Ze (Qvk c q r Qb) ?_);rintro v p ⟨sv,xs,rfl,G5,Q,rfl⟩
   have G:∀y∈xs,y.1≤4294967295∧y.2≤4294967295:=fun y T=>by
    obtain⟨z,R,e⟩:=Qq.1 ((Q.mem_iff).1 T);rw[←e];exact o.X4 r n z R
   have M:=Qjm Q;have hole:=Qqc xs;have V:=o.wk;have U:=o.w;refine Zp (Zcp Ze (Q0c sv xs G5 G) (ZY 3 ?_));refine Zd ([blk (ps x.id) 90 (bjC (Em x) k lb none none j).toArray]) [15] [0,1,2,3,4,5,7,8,9,10,11] (ZY 8 (ZY 3 ?_));refine Z1 (i:=6) ef ef ?_;refine  (Zcp Ze (Zjp x.work (Vb xs) Qb Qb) ?_);refine Zk [] ?_;refine Z1 (i:=12) ef ef ?_;refine  (Zc1 Ze (Zh1 (x.work+Vb xs) x.w Qb Qb) ?_);rintro v p ⟨rfl,hG⟩;rw[hG,M,←J];refine Zk [13,14] (ZY 2 ?_);refine Z1 (i:=15) ef ef ?_;refine(S.store (cs':=[_,_,_,_,_,_,_,_,_,_,_,_,_,_,_,_,_]) Eo.h rfl rfl rfl rfl rfl ?_);refine ZL ([]) [] ?_;refine ZD (ZY 3 (S.X7 (ps x.id) (bjC a k lb none none j).toArray (by rw[g]) (S.Qs (Qae _) ?_)));refine S.sub (jX (ps x.id) a k lb none none j (bR b st ps u jb w ov A C mv sb l i Γ)) (e:=by subst g;infer_instance) ?_;refine S.Q0 b st ps u jb w ov A C mv sb l i a k lb none none j D m (Yr a m) (F.set Nv) ⟨by rw[g];exact f.an,by rw[g];exact f.l,by rw[g];exact f.d,by rw[g];rfl,by rw[g];exact f.s⟩ (Zp (Zc1 Ze (O) ?_));rintro v p rfl;rw[Q3m st (x:=a) (y:=a) rfl];refine Zy ?_;exact Zfn ef Zq (by rw[s])
theorem Dn(st:Br){x:Bj}{id:Nat}(h:id≠x.id):Qk (st.set x).js id=Qk st.js id:=by
 show Qk (Xe st.js x) id=_;rw[Gb,Qe h]
theorem Q3u(js:List Bj){id k:Nat}(h:id≠k):Qk (rmJ js k) id=Qk js id:=by
 unfold Qk rmJ;induction js with
 | nil=>rfl
 | cons y js c=>
  by_cases a:y.id=k
  ·have b:decide (y.id≠k)=false:=by simp[a]
   have d:decide (y.id=id)=false:=Q6 (fun e=>h (e.symm.trans a));simp only[Eg,List.find?_cons,b,d];exact c
  ·have b:decide (y.id≠k)=true:=by simp[a]
   simp only[Eg,List.find?_cons,b,C0];rw[c]
theorem L6(st:Br){x:Bj}{id:Nat}(h:id≠x.id):Qk (Y6 st x).js id=Qk st.js id:=by
 unfold Y6
 split
 ·split
  ·exact Dn {st with m:=(Xj st.m x.id).2} (x:=anew x) h
  ·exact Q3u st.js h
 ·exact Dn st h
theorem Qro(st:Br){x:Bj}(a:Bool){id:Nat}(h:id≠x.id):Qk (Wd st x a).js id=Qk st.js id:=by
 cases b:x.Ql with
 | some d=>rw[Kd b];exact L6 st (x:=W9 x a d) h
 | none=>rw[Vj b];exact L6 {st with Qd:=st.Qd++(J0 st x).map (Va x.id)} (x:=W9 x a (J0 st x)) h
theorem Qpt(st:Br){x:Bj}{id:Nat}(h:id≠x.id):Qk (Xv st x).js id=Qk st.js id:=by
 by_cases a:x.work=x.Qg∨x.Xg.isSome∨x.Ql.isSome∨x.state≠2
 ·rw[V3 a];exact Dn st h
 ·rw[Ua a];exact Dn {st with Qd:=st.Qd++x.at_.map (W8 (Wt x))} (x:=Wt x) h
theorem Q1q(st:Br){x:Bj}{id:Nat}(h:id≠x.id):Qk (Y9 st x).js id=Qk st.js id:=by
 unfold Y9
 split
 ·exact Dn st h
 ·split
  ·exact Dn st (x:=Em x) h
  ·exact Qpt st (x:=Dw x _) h
structure Cw(f:Br→Bj→Br):Prop where
 ok:∀st x,Yu st→Qk st.js x.id=some x→Yu (f st x)
 oth:∀st x id,id≠x.id→Qk (f st x).js id=Qk st.js id
 ord:∀st x,Yu st→Qk st.js x.id=some x→(f st x).Qd.length≤st.Qd.length+16
theorem Qcz(f:Br→Bj→Br)(st:Br)(l:List Nat)(id:Nat):each f st (l++[id])=match Qk (each f st l).js id with
  | none=>each f st l
  | some x=>f (each f st l) x:=by
 unfold each;rw[Ha];rfl
theorem Q6c{st:Br}{e:Nat}{x:Bj}(a:st.js[e]?=some x):st.ids.take (e+1)=st.ids.take e++[x.id]:=by
 rw[X2,Q8,a];rfl
structure Qog(f:Br→Bj→Br)(st:Br)(e:Nat):Prop where
 ok:Yu (each f st (st.ids.take e))
 ord:(each f st (st.ids.take e)).Qd.length≤st.Qd.length+16*e
 here:∀i x,e≤i→st.js[i]?=some x→Qk (each f st (st.ids.take e)).js x.id=some x
theorem Mb{f:Br→Bj→Br}{st:Br}{e:Nat}(h:Qog f st e){x:Bj}(a:st.js[e]?=some x):each f st (st.ids.take (e+1))=f (each f st (st.ids.take e)) x:=by
 rw[Q6c a,Qcz,h.here e x (Q1 e) a]
theorem Mc{f:Br→Bj→Br}(d:Cw f){st:Br}(h:Yu st):∀e,e≤st.js.length→Qog f st e:=by
 intro e;induction e with
 | zero=>exact fun _=>⟨h,Q1 _,fun i x _ b=>Ys h.Y4 (Yn b)⟩
 | succ e k=>
  intro q;have a:=k Qb;obtain⟨x,b⟩:=Xs (show e<st.js.length by omega);have j:=a.here e x (Q1 e) b;have c:=Mb a b
  refine⟨by rw[c];exact d.ok _ x a.ok j,?_,fun i y l g=>?_⟩
  ·rw[c];have:=d.ord _ x a.ok j;have:=a.ord;omega
  ·rw[c,d.oth _ x _ ?_]
   ·exact a.here i y Qb g
   ·obtain⟨p,o⟩:=Yz.1 b;obtain⟨n,m⟩:=Yz.1 g;have:=Jy.1 h.Y4 e i p n Qb;rw[o,m]at this;omega
theorem Me{f:Br→Bj→Br}{st:Br}{e:Nat}(a:e=st.js.length):each f st (st.ids.take e)=each f st st.ids:=by rw[a,show st.js.length=st.ids.length from (Qo ..).symm,Wh]
theorem Qa2{f:Br→Bj→Br}(a:Cw f){st:Br}(h:Yu st):Yu (each f st st.ids):=by
 rw[←Me rfl];exact(Mc a h _ (Q1 _)).ok
theorem Qie{f:Br→Bj→Br}(a:Cw f){st:Br}(h:Yu st):(each f st st.ids).Qd.length≤st.Qd.length+16*st.js.length:=by
 rw[←Me rfl];exact(Mc a h _ (Q1 _)).ord
theorem Qk0{st:Br}(h:Yu st){x:Bj}(a:Qk st.js x.id=some x):x.at_.length≤16:=Up (h.at_ a).len h.Ra
theorem Q7x:Cw Y9:=⟨fun _ _ h a=>Q1s h (h.at_ a),fun st _ _ h=>Q1q st h,fun st x h a=>by
 have c:=(Qrs st x).1;have b:=Qk0 h a;omega⟩
theorem Qpw:Cw Xv:=⟨fun _ _ h a=>Qpv h (h.at_ a),fun st _ _ h=>Qpt st h,fun st x h a=>by
 have c:=(Qf7 st x).1;have b:=Qk0 h a;omega⟩
theorem Zay(b:Nat)(st:Br)(ps:Nat→Nat)(B:st.Qd.length≤880000):Spec Tryz.prog 46 [pt b] [BP b st ps] fun h _ g=>g=BP b (each Xv st st.ids) ps::h:=by
 refine Spec.J3 fun f=>?_;have C:=f.Dk;refine Zbd Tryz.func46 rfl Tryz.ntmps46 fun y h=>Zsh (ZY 3 (Zp (Zc1 Ze (Qip b st ps) ?_)));rintro v g ⟨a,rfl,r,rfl⟩;refine S.Xn a fun p D o=>?_;have n:maxLen≤9223372036854775807:=by unfold maxLen;omega
 refine ZY 4 ?_;refine Zl (fun q c d=>∃(e:Nat) (t:Br),q=st.js.length-e∧e≤st.js.length∧t=each Xv st (st.ids.take e)∧c=[(0,pt b),(5,a.v),(6,.int .i64 (a.n:Int)),(7,.int .i64 (e:Int))]∧d=own a 86 1 (pts ps st.js)::BP b t ps::h) (m:=_) (⟨0,st,rfl,Qb,rfl,rfl,rfl⟩) ?_;rintro q c d ⟨e,t,A,s,rfl,rfl,rfl⟩;have k:=Mc Qpw f e s;have u:=k.ord;refine ZY 5 ?_
 refine Zj ef (fun w=>?_) (fun w=>?_)
 ·refine S.Q7 a Qb fun sb z l _ _ _=>?_;obtain⟨x,i⟩:=Xs (show e<st.js.length by omega);refine ZY 5 (Zv (Zx (e) ef (l) ef Qb) ?_);refine Zv (Zo (a) (e) ef (l) (by rw[Q8,i];rfl)) ?_;refine ZY 5 (Zp (Zc1 Ze (Q3n b _ ps x (k.here e x (Q1 e) i) Qb) ?_));rintro v g rfl;rw[←Mb k i];refine ZY 2 (Zv (Za ef ef) (ZY 2 ?_));exact ZX (q-1) (⟨e+1,_,Qb,Qb,rfl,rfl,rfl⟩) Qb
 ·have j:e=st.js.length:=Qb
  refine Zy ?_;exact Zfn ef Zq (by rw[←Me j])
theorem Yu.sset{st:Br}(h:Yu st){s:Option (List Nat)}(c:∀d,s=some d→d.Nodup)(a:Bool):Yu {st with stops:=s,Qn:=a}:=⟨h.R,h.N,h.Fu,h.Y4,fun x b=>h.Qu x b,h.Dk,h.q1,h.q2,h.g1,h.g2,h.now,h.fin,h.mem,c⟩
theorem Lc{st:Br}(h:Yu st)(n:Nat):(Zt st n).Qd.length≤st.Qd.length+16*st.js.length:=by
 unfold Zt
 split
 ·omega
 ·split
  ·show st.Qd.length≤_;omega
  ·exact Qie Q7x (st:={st with stops:=none,Qn:=false}) (h.sset (s:=none) (fun d a=>(by cases a)) false)
theorem Gv(b:Nat)(st:Br)(ps:Nat→Nat)(n:Nat)(Y:st.Qd.length≤880000):Spec Tryz.prog 54 [pt b,.int .i64 (n:Int)] [BP b st ps] fun i _ A=>A=BP b (Zt st n) ps::i:=by
 refine Spec.J3 fun c=>?_;have Sq:=c.Dk;refine Spec.Ht Tryz.func54 rfl Tryz.ntmps54 rfl ?_;intro L i;show S _ L [(0,pt b),(1,.int .i64 (n:Int))] (BP b st ps::i) _;refine S.W5 b st ps fun p jb r ov u y mv sb l a=>?_;cases g:st.stops with
 | none=>
  have w:Zt st n=st:=by rw[Zt,g]
  have C:sb=none:=by have:=a.sn;rw[g]at this;cases sb with|none=>rfl|some q=>cases this
  subst C;refine ZS (ZY 7 (Zv (Hz Tryz.underlying81 rfl rfl) (Zy (ZT ef (Zy (S.Yk b st ps p jb r ov u y mv none l a ?_))))));exact Zf ef Zq (by rw[w])
 | some s=>
  obtain⟨q,M⟩:∃q,sb=some q:=by have:=a.sn;rw[g]at this;cases sb with|none=>cases this|some q=>exact⟨q,rfl⟩
  subst M;have K:=c.C4 s g;have O:=Al (Jd s n);refine S.conv (Vp (some q) st.stops) (Ent.Q0g g _) ?_;have z:Yu {st with stops:=none,Qn:=false}:=c.sset (s:=none) (fun d G=>(by cases G)) false;refine ZS (ZY 7 (Zv (Hz Tryz.underlying81 rfl rfl) (Zy (ZF ef (ZY 8 (Zp (S.Gz Tryz.underlying81 Tryz.underlying3 rfl rfl rfl ?_)))))));rw[Tt n K];refine ZY 8 (ZY 3 ?_)
  refine Zj ef (fun I=>?_) (fun I=>?_)
  ·have W:Jd s n≠[]:=fun e=>by rw[e]at I;exact absurd I Qp
   have w:Zt st n={st with stops:=some (Jd s n)}:=by rw[Zt,g];exact Qh W
   refine Zy (S.conv (Qz q .i64 (Vo (Jd s n))) (Ent.Qjn (s:=some (Jd s n)) rfl _) (S.sub (bX b {st with stops:=some (Jd s n)} ps p jb r ov u y mv (some q) l i) ?_));refine S.Yk b {st with stops:=some (Jd s n)} ps p jb r ov u y mv (some q) l ⟨c.sset (s:=some (Jd s n)) (fun d G=>by cases G;exact Qgd K n) st.Qn,a.perm,a.on,a.im,a.dn,a.mn,rfl⟩ ?_;exact Zf ef Zq (by rw[w])
  ·have F:Jd s n=[]:=Ae Qb;have w:Zt st n=each Y9 {st with stops:=none,Qn:=false} st.ids:=by rw[Zt,g];exact Qe (fun h=>h F)
   refine ZY 8 (ZY 7 (S.Qs (Ent.Qca _) (S.sub (bX b {st with stops:=none,Qn:=false} ps p jb r ov u y mv none l i) ?_)));refine S.Yk b {st with stops:=none,Qn:=false} ps p jb r ov u y mv none l ⟨z,a.perm,a.on,a.im,a.dn,a.mn,rfl⟩ (Zp (Zc1 Ze (Qip b {st with stops:=none,Qn:=false} ps) ?_));rintro v A ⟨f,rfl,D,rfl⟩;refine S.Xn f fun Q Bt P=>?_;have N:maxLen≤9223372036854775807:=by unfold maxLen;omega
   have R:f.n=st.js.length:=D;refine ZY 4 ?_;refine Zl (fun k j o=>∃(e:Nat) (t:Br),k=st.js.length-e∧e≤st.js.length∧t=each Y9 {st with stops:=none,Qn:=false} (st.ids.take e)∧j=[(0,pt b),(29,f.v),(30,.int .i64 (f.n:Int)),(31,.int .i64 (e:Int))]∧o=own f 86 1 (pts ps st.js)::BP b t ps::i) (m:=_) (⟨0,{st with stops:=none,Qn:=false},rfl,Qb,rfl,rfl,rfl⟩) ?_;rintro k j o ⟨e,t,Z,T,rfl,rfl,rfl⟩;have H:=Mc Q7x z e T;have U:(each Y9 {st with stops:=none,Qn:=false} (st.ids.take e)).Qd.length≤st.Qd.length+16*e:=H.ord;refine ZY 5 ?_
   refine Zj ef (fun V=>?_) (fun V=>?_)
   ·refine S.Q7 f Qb fun sb X J _ _ _=>?_;obtain⟨x,B⟩:=Xs (show e<st.js.length by omega);refine ZY 5 (Zv (Zx (e) ef (J) ef Qb) ?_);refine Zv (Zo (f) (e) ef (J) (by rw[Q8,B];rfl)) ?_;refine ZY 5 (Zp (Zc1 Ze (Qn4 b (each Y9 {st with stops:=none,Qn:=false} (st.ids.take e)) ps x (H.here e x (Q1 e) B) Qb) ?_));rintro v A rfl;rw[←Mb (st:={st with stops:=none,Qn:=false}) H B];refine ZY 2 (Zv (Za ef ef) (ZY 2 ?_));exact ZX (k-1) (⟨e+1,_,Qb,Qb,rfl,rfl,rfl⟩) Qb
   ·have E:e=st.js.length:=Qb
    refine Zy ?_;exact Zfn ef Zq (by rw[w,←Me (st:={st with stops:=none,Qn:=false}) E])
abbrev Cq(x:Bj)(d:List Nat)(n:Nat):Bj:={x with Ql:=some (Jd d n)}
theorem JOk.Cq{N:Nat}{x:Bj}(h:JOk N x){d:List Nat}(b:d.Nodup)(n:Nat):JOk N (Cq x d n):=⟨h.P3,h.Rx,h.tier,h.k1,h.kn,h.w,h.cr,h.wk,h.Uy,h.at_,fun e a=>(by cases a;exact Qgd b n),h.lod,h.X4,h.ld,h.svl⟩
theorem Qan{n:Nat}{st:Br}{x:Bj}(h:n∉x.at_):Xw n st x=st:=by rw[Xw,Qe h]
theorem Nb{n:Nat}{st:Br}{x:Bj}(h:n∈x.at_)(a:x.Ql=none):Xw n st x=Wd st x true:=by rw[Xw,Qh h,a]
theorem Na{n:Nat}{st:Br}{x:Bj}(h:n∈x.at_){d:List Nat}(a:x.Ql=some d):Xw n st x=Y6 st (Cq x d n):=by rw[Xw,Qh h,a]
theorem Q5l(n:Nat):Cw (Xw n):=by
 refine⟨fun st x h c=>?_,fun st x id e=>?_,fun st x h c=>?_⟩
 ·by_cases a:n∈x.at_
  ·cases b:x.Ql with
   | none=>rw[Nb a b];exact Qrp h (h.at_ c) true
   | some d=>rw[Na a b];exact A9 h ((h.at_ c).Cq ((h.at_ c).drop d b) n)
  ·rw[Qan a];exact h
 ·by_cases a:n∈x.at_
  ·cases b:x.Ql with
   | none=>rw[Nb a b];exact Qro st true e
   | some d=>rw[Na a b];exact L6 st (x:=Cq x d n) e
  ·rw[Qan a]
 ·by_cases a:n∈x.at_
  ·cases b:x.Ql with
   | none=>
    rw[Nb a b];have g:=(Co st x true).1;have f:=Qk0 h c;omega
   | some d=>
    rw[Na a b,(Gp st (Cq x d n)).1];omega
  ·rw[Qan a];omega
abbrev Wq(st:Br)(n:Nat):Br:={st with up:=Jd st.up n,m:=(upR st.m n false).2,Qd:=st.Qd.filter fun o=>decide (o.1≠n)}
theorem Qhp{st:Br}(h:Yu st)(n:Nat):Yu (Wq st n):=((h.uset (Jd st.up n)).mset (Ql5 h.Fu n false) (Qbq _ _ _).1 (Qbq _ _ _).2).oset _
theorem Qky{st:Br}{n:Int}(h:Vh st n true≠0):Kh st n=(Vh st n true,st):=by rw[Kh,Qh h]
theorem M9{st:Br}{n:Nat}(h:¬Vh st n true≠0):Kh st n=(0,Zt (each (Xw n) (Wq st n) st.ids) n):=by rw[Kh,Qe h];rfl
set_option maxHeartbeats 1000000 in
theorem Zj2(b:Nat)(st:Br)(ps:Nat→Nat)(n:Int)(hl:st.Qd.length≤800000):Spec Tryz.prog 15 [pt b,.int .i64 n] [BP b st ps] fun B v z=>v=.int .i64 (Kh st n).1∧z=BP b (Kh st n).2 ps::B:=by
 refine Spec.J3 fun L=>?_;have Sq:=L.Dk;refine Zbd Tryz.func15 rfl Tryz.ntmps15 fun w0 B=>Zsh (ZY 2 (Zp (S.box (cs:=[_]) rfl rfl rfl ?_)));intro s;refine ZY 7 (Zp (Zcp Ze (Lo b st ps n true) (ZY 7 ?_)))
 refine Zj ef (fun R=>?_) (fun R=>?_)
 ·have J:=Qky R;refine ZY 6 ?_;exact Zf ef Zq (⟨by rw[J];rfl,by rw[J]⟩)
 ·have hr:=Qe6 (W7 R);obtain⟨k,rfl⟩:∃k:Nat,n=k:=⟨n.toNat,Qb⟩;have J:=M9 R;have P:=Qhp L k;have a8:(Wq st k).Qd.length≤st.Qd.length:=Uw _ _;refine S.W5 b st ps fun f jb g ov j r mv sb l h=>?_;refine S.Qhn f fun a1=>?_;have Ec:=Qf6 a1;refine ZY 2 ?_;refine Zd ([blk s 3 #[.int .i64 (k:Int)],blk b 84 (bC st f jb g ov j r mv sb).toArray]) [] (Zra 0 5) (ZY 5 ?_);refine Z1 (i:=5) ef ef ?_;refine(S.Gz Tryz.underlying81 Tryz.underlying3 rfl rfl rfl ?_);rw[Tt k Ec];refine Zk [] ?_;refine ZD (Zy ?_);refine Zd ([blk s 3 #[.int .i64 (k:Int)],blk b 84 (bC st f jb g ov j r mv sb).toArray]) [] (Zra 0 5) (ZY 5 ?_);refine Z1 (i:=5) ef ef ?_;refine  (Zcp Ze (Go.Proofs.YtdackcibfkkniaaGreatDoor.Q14 g st.m k false) ?_);refine Zk [] ?_;refine ZD (ZY 8 (Zp (Zc1 Ze (Q83 s k ov st.Qd h.on) ?_)));rintro v z ⟨I,rfl,Uf,rfl⟩;refine ZY 8 (S.sub (blk s 3 #[.int .i64 (k:Int)]::bX b (Wq st k) ps f jb g I j r mv sb l B) ?_);refine S.Yk b (Wq st k) ps f jb g I j r mv sb l ⟨P,h.perm,Uf,h.im,h.dn,h.mn,h.sn⟩ (Zp (Zc1 Ze (Qip b (Wq st k) ps) ?_));rintro v z ⟨A,rfl,X,rfl⟩;refine S.Xn A fun a6 Bt a5=>?_;have a4:maxLen≤9223372036854775807:=by unfold maxLen;omega
  have a7:A.n=st.js.length:=X;refine ZY 4 ?_;refine Zl (fun q G H=>∃(e:Nat) (t:Br),q=st.js.length-e∧e≤st.js.length∧t=each (Xw k) (Wq st k) (st.ids.take e)∧G=[(0,pt b),(3,pt s),(35,A.v),(36,.int .i64 (A.n:Int)),(37,.int .i64 (e:Int))]∧H=blk s 3 #[.int .i64 (k:Int)]::own A 86 1 (pts ps st.js)::BP b t ps::B) (m:=_) (⟨0,Wq st k,rfl,Qb,rfl,rfl,rfl⟩) ?_;rintro q G H ⟨e,t,hq,he,K,rfl,rfl⟩;have Q:Qog (Xw k) (Wq st k) e:=Mc (Q5l k) P e he;have a0:=Q.ord;have a2:t.Qd.length≤816000:=by rw[K];exact Up a0 Qb
  refine ZY 5 ?_
  refine Zj ef (fun h2=>?_) (fun h2=>?_)
  ·refine S.Q7 A Qb fun sb so Yo _ _ _=>?_;obtain⟨x,U⟩:=Xs (show e<st.js.length by omega);have F:Qk t.js x.id=some x:=by rw[K];exact Q.here e x (Q1 e) U
   have w:each (Xw k) (Wq st k) (st.ids.take (e+1))=Xw k t x:=by rw[K];exact Mb (st:=Wq st k) Q U
   have E:Yu t:=by rw[K];exact Q.ok
   have T:=E.at_ F;refine S.Uu b t ps x F fun f jb g ov j r mv sb l i u lb O rb C h Y Yr a3 p=>(ZY 5 (Zv (Zx (e) ef (Yo) ef Qb) ?_));refine Zv (Zo (A) (e) ef (Yo) (by rw[Q8,U];rfl)) ?_;refine ZY 4 ?_;refine Zd ([blk (ps x.id) 90 (bjC x u lb O rb C).toArray,blk s 3 #[.int .i64 (k:Int)]]) [] (Zra 0 5) (ZY 5 ?_);refine Z1 (i:=5) ef ef ?_;refine  (Zcp Ze (S8 (own u 3 1 (nds x.at_)) u x.at_ k p.an RdS.own) ?_);refine Zk [6] (Zy ?_);refine ZD ?_
   refine Zi ef (fun h3=>?_) (fun h3=>?_)
   ·have Us:=Qan (st:=t) (show k∉x.at_ by simpa using h3);refine S.Q0 b t ps f jb g ov j r mv sb l i x u lb O rb C Y rfl (Yr x rfl) (h.set T) p ?_;rw[Z4 E F];refine ZY 2 (Zv (Za ef ef) (ZY 2 ?_));first|exact ZX (q-1) ⟨e+1,t,Qb,Qb,by rw[w,Us],rfl,rfl⟩ Qb|exact ZX (q-1) ⟨e+1,Wd t x true,Qb,Qb,by rw[w,D],rfl,rfl⟩ Qb|exact ZX (q-1) ⟨e+1,Y6 t a,Qb,Qb,by rw[w,D,c],rfl,rfl⟩ Qb
   ·have M:k∈x.at_:=by simpa using h3
    refine ZY 7 (Zv (Hz Tryz.underlying81 rfl rfl) (Zy ?_))
    refine Zi ef (fun h4=>?_) (fun h4=>?_)
    ·have N:x.Ql=none:=by have:=p.d;rw[Qef.1 h4]at this;cases e9:x.Ql with|none=>rfl|some d=>rw[e9]at this;cases this
     have D:=Nb (st:=t) M N;refine S.Q0 b t ps f jb g ov j r mv sb l i x u lb O rb C Y rfl (Yr x rfl) (h.set T) p ?_;rw[Z4 E F];refine ZY 3 (Zp (Zc1 Ze (Qih b t ps x true F Qb) ?_));rintro v z rfl;refine ZY 2 (Zv (Za ef ef) (ZY 2 ?_));first|exact ZX (q-1) ⟨e+1,t,Qb,Qb,by rw[w,Us],rfl,rfl⟩ Qb|exact ZX (q-1) ⟨e+1,Wd t x true,Qb,Qb,by rw[w,D],rfl,rfl⟩ Qb|exact ZX (q-1) ⟨e+1,Y6 t a,Qb,Qb,by rw[w,D,c],rfl,rfl⟩ Qb
    ·obtain⟨q2,W⟩:∃q,O=some q:=by cases O with|none=>cases h4|some q=>exact⟨q,rfl⟩
     subst W;obtain⟨d,N⟩:∃d,x.Ql=some d:=by have:=p.d;cases e9:x.Ql with|none=>rw[e9]at this;cases this|some d=>exact⟨d,rfl⟩
     have D:=Na (st:=t) M N;have C9:=T.drop d N;refine S.conv (Vp (some q2) x.Ql) (Ent.Q0g N _) ?_;obtain⟨a,c⟩:∃a:Bj,a=Cq x d k:=⟨_,rfl⟩;have Nv:JOk t.nodes a:=by rw[c];exact T.Cq C9 k
     have o:a.id=x.id:=by rw[c]
     refine Zy ?_;refine Zd ([blk (ps x.id) 90 (bjC x u lb (some q2) rb C).toArray,blk s 3 #[.int .i64 (k:Int)]]) [] (Zra 0 5) (ZY 5 ?_);refine Z1 (i:=5) ef ef ?_;refine(S.Gz Tryz.underlying81 Tryz.underlying3 rfl rfl rfl ?_);rw[Tt k C9];refine Zk [] ?_;refine ZD (ZY 3 ?_);refine S.conv (Qz q2 .i64 (Vo (Jd d k))) (Ent.Qjn (show a.Ql=some (Jd d k) by rw[c]) _) (S.X7 (ps x.id) (bjC a u lb (some q2) rb C).toArray (by rw[c]) ?_);refine S.sub (jX (ps x.id) a u lb (some q2) rb C (bR b t ps f jb g ov j r mv sb l i (blk s 3 #[.int .i64 (k:Int)]::own A 86 1 (pts ps st.js)::B))) (e:=by subst c;infer_instance) ?_;refine S.Q0 b t ps f jb g ov j r mv sb l i a u lb (some q2) rb C Y o (Yr a o) (h.set Nv) ⟨by rw[c];exact p.an,by rw[c];exact p.l,by rw[c];rfl,by rw[c];exact p.r,by rw[c];exact p.s⟩ ?_;refine Zp (Zc1 Ze ((o ▸ Qnx b (t.set a) ps a (Bu t (by rw[o];exact F)):Spec Tryz.prog 53 [pt b,pt (ps x.id)] [BP b (t.set a) ps] fun B _ z=>z=BP b (Y6 (t.set a) a) ps::B)) ?_);rintro v z rfl;rw[A7 t (x:=a) (y:=a) rfl];refine ZY 2 (Zv (Za ef ef) (ZY 2 ?_));first|exact ZX (q-1) ⟨e+1,t,Qb,Qb,by rw[w,Us],rfl,rfl⟩ Qb|exact ZX (q-1) ⟨e+1,Wd t x true,Qb,Qb,by rw[w,D],rfl,rfl⟩ Qb|exact ZX (q-1) ⟨e+1,Y6 t a,Qb,Qb,by rw[w,D,c],rfl,rfl⟩ Qb
  ·have Z:e=st.js.length:=Qb
   have V:t=each (Xw k) (Wq st k) st.ids:=by rw[K,←Me (st:=Wq st k) Z]
   refine ZY 5 (Zp (Zc1 Ze (Gv b t ps k Qb) ?_));rintro v z rfl;rw[V];refine ZY 6 ?_;exact Zf ef Zq (⟨by rw[J];rfl,by rw[J]⟩)
abbrev agX(x:Bj):Bj:={x with again:=false}
theorem JOk.agX{N:Nat}{x:Bj}(h:JOk N x):JOk N (agX x):=⟨h.P3,h.Rx,h.tier,h.k1,h.kn,h.w,h.cr,h.wk,h.Uy,h.at_,h.drop,h.lod,h.X4,h.ld,h.svl⟩
theorem Qn7{st:Br}{x:Bj}{d:List Nat}(a:Qk st.js x.id=some x)(b:x.Ql=some d)(c:x.again=true):Xd st x.id=(0,st.set (agX x)):=by
 unfold Xd;rw[a];show (match x.Ql with|none=>_|some _=>_)=_
 split
 ·rename_i e;rw[b]at e;cases e
 ·exact Qh c
theorem Q84(b:Nat)(st:Br)(ps:Nat→Nat)(id:Nat)(F:st.Qd.length≤900000):Spec Tryz.prog 29 [pt b,.int .u32 (id:Int)] [BP b st ps] fun r v B=>v=.int .i64 (Xd st id).1∧B=BP b (Xd st id).2 ps::r:=by
 refine Spec.J3 fun c=>?_;refine Spec.Ht Tryz.func29 rfl Tryz.ntmps29 rfl ?_;intro C r;show S _ C [(0,pt b),(1,.int .u32 (id:Int))] (BP b st ps::r) _;cases a:Qk st.js id with
 | none=>
  have e:Xd st id=(6,st):=by rw[Xd,a]
  refine S.W5 b st ps fun j jb k ov m o mv sb l g=>?_;refine ZS (ZY 8 (ZY 7 ?_));refine Zvg ef ef ef (Qx (.pointer none) Tryz.underlying82 Tryz.underlying31 Tryz.Jv.h rfl rfl rfl (by rw[Un c.Y4 g.perm,a];rfl)) (ZY 8 (ZY 8 (ZY 8 (ZY 8 (Zy (S.Yk b st ps j jb k ov m o mv sb l g ?_))))));exact Zf ef Zq (⟨by rw[e];rfl,by rw[e]⟩)
 | some x=>
 obtain⟨_,G⟩:=Qi a;subst G;have A:=c.at_ a;refine S.Uu b st ps x a fun j jb k ov m o mv sb l i z lb p rb s g t Yr D f=>?_;have h:Yh (x.id:Int) l=some (pt (ps x.id)):=by rw[Un c.Y4 g.perm,a];rfl
 cases n:x.Ql with
 | none=>
  have e:Xd st x.id=(0,Wd st x false):=by rw[Xd,a];dsimp only;rw[n]
  have u:p=none:=by have:=f.d;rw[n]at this;cases p with|none=>rfl|some q=>cases this
  subst u;refine ZS (ZY 8 (ZY 7 ?_));refine Zvg ef ef ef (Qx (pt (ps x.id)) Tryz.underlying82 Tryz.underlying31 Tryz.Jv.h rfl rfl rfl (by rw[h];rfl)) (ZY 8 ?_);refine Zvg ef ef ef (Qx (pt (ps x.id)) Tryz.underlying82 Tryz.underlying31 Tryz.Jv.h rfl rfl rfl (by rw[h];rfl)) (ZY 3 (Zvg ef ef ef (F7 Tryz.underlying81 rfl rfl) (ZY 8 (ZY 8 (ZY 7 ?_)))));refine Zv (Qx (pt (ps x.id)) Tryz.underlying82 Tryz.underlying31 Tryz.Jv.h rfl rfl rfl (by rw[h];rfl)) (ZY 8 (Zy (Zv (F7 Tryz.underlying81 rfl rfl) (Zy (ZF ef (ZY 5 (S.Q0 b st ps j jb k ov m o mv sb l i x z lb none rb s t rfl (Yr x rfl) (g.set A) f ?_)))))));rw[Z4 c a];refine Zp (Zc1 Ze (Qih b st ps x false a F) ?_);rintro v B rfl;refine ZY 6 ?_;exact Zf ef Zq (⟨by rw[e];rfl,by rw[e]⟩)
 | some d=>
  obtain⟨q,E⟩:∃q,p=some q:=by have:=f.d;rw[n]at this;cases p with|none=>cases this|some q=>exact⟨q,rfl⟩
  subst E;refine ZS (ZY 8 (ZY 7 ?_));refine Zvg ef ef ef (Qx (pt (ps x.id)) Tryz.underlying82 Tryz.underlying31 Tryz.Jv.h rfl rfl rfl (by rw[h];rfl)) (ZY 8 ?_);refine Zvg ef ef ef (Qx (pt (ps x.id)) Tryz.underlying82 Tryz.underlying31 Tryz.Jv.h rfl rfl rfl (by rw[h];rfl)) (ZY 3 (Zvg ef ef ef (F7 Tryz.underlying81 rfl rfl) (ZY 6 ?_)));refine Zvg ef ef ef (Qx (pt (ps x.id)) Tryz.underlying82 Tryz.underlying31 Tryz.Jv.h rfl rfl rfl (by rw[h];rfl)) (ZY 7 ?_)
  refine Zi ef (fun y=>?_) (fun y=>?_)
  ·have w:x.again=false:=by simpa using y
   have e:Xd st x.id=(6,st):=by rw[Xd,a];dsimp only;rw[n];dsimp only;rw[w];rfl
   refine ZY 5 (S.Q0 b st ps j jb k ov m o mv sb l i x z lb (some q) rb s t rfl (Yr x rfl) (g.set A) f ?_);rw[Z4 c a];exact Zf ef Zq (⟨by rw[e];rfl,by rw[e]⟩)
  ·have w:x.again=true:=by simpa using y
   have e:=Qn7 a n w;refine ZY 8 ?_;refine Zv (Qx (pt (ps x.id)) Tryz.underlying82 Tryz.underlying31 Tryz.Jv.h rfl rfl rfl (by rw[h];rfl)) (ZY 8 (Zy (Zv (F7 Tryz.underlying81 rfl rfl) (Zy (ZT ef (ZY 8 (ZY 4 ?_)))))));refine S.Q0 b st ps j jb k ov m o mv sb l i (agX x) z lb (some q) rb s t rfl (Yr (agX x) rfl) (g.set A.agX) ⟨f.an,f.l,f.d,f.r,f.s⟩ ?_;exact Zf ef Zq (⟨by rw[e];rfl,by rw[e]⟩)
theorem Ent.Qyy(F:Bj→Assn)(x:Bj):∀(js:List Bj) (a:List Assn),Ent (F x::alls js F::a) (alls (Hg x js) F::a)
 | [],a=>Ent.Cu F x [] a
 | y::l,a=>by
  unfold Hg
  split
  ·exact Ent.Cu F x (y::l) a
  ·exact(((Ent.Ct F y l a).cons _).trans (Ent.swap _ _ _)).trans (((Ent.Qyy F x l a).cons _).trans (Ent.Cu F y _ a))
abbrev psN(ps:Nat→Nat)(id p:Nat):Nat→Nat:=fun i=>if i=id then p else ps i
theorem Q4h(ps:Nat→Nat)(id p:Nat):psN ps id p id=p:=Qh rfl
theorem Zpf{ps:Nat→Nat}{p:Nat}{x:Bj}{js:List Bj}(h:∀y∈js,y.id≠x.id)(a:List Assn):Ent (JI p x::alls js (jI ps)::a) (alls (Hg x js) (jI (psN ps x.id p))::a):=by
 have d:js.map (jI ps)=js.map (jI (psN ps x.id p)):=De fun y b=>by
  show JI (ps y.id) y=JI (psN ps x.id p y.id) y;rw[show psN ps x.id p y.id=ps y.id from Qe (h y b)]
 have c:Ent (JI p x::alls js (jI (psN ps x.id p))::a) (alls (Hg x js) (jI (psN ps x.id p))::a):=by
  have:=Ent.Qyy (jI (psN ps x.id p)) x js a;rw[show jI (psN ps x.id p) x=JI p x by show JI (psN ps x.id p x.id) x=_;rw[Q4h]]at this;exact this
 exact((Ent.Q1x d a).cons _).trans c
theorem Zpe{ps:Nat→Nat}{p:Nat}{x:Bj}{js:List Bj}{l:List (Int×Value)}(c:Wm js)(a:l.Perm (js.map (jE ps)))(h:Qk js x.id=none):(Xl (x.id:Int) (pt p) l).Perm ((Hg x js).map (jE (psN ps x.id p))):=by
 have h0:Yh (x.id:Int) l=none:=by rw[Un c a,h];rfl
 rw[Q1y h0]
 have e:js.map (jE ps)=js.map (jE (psN ps x.id p)):=De fun y b=>by
  show jE ps y=_;simp only[jE,psN,Qe (Kb h y b)]
 have d:jE (psN ps x.id p) x=((x.id:Int),pt p):=by simp only[jE,psN,C0]
 refine(List.perm_append_comm).trans ((?_:List.Perm _ _).trans ((Qcj x js).map _).symm);show List.Perm (((x.id:Int),pt p)::l) (jE (psN ps x.id p) x::js.map (jE (psN ps x.id p)));rw[d,←e];exact a.cons _
theorem Q7m{x:Bj}{js:List Bj}(a:Wm js)(h:∀y∈js,y.id≠x.id):Qk (Hg x js) x.id=some x:=Ys (P2 a h) (Ks.2 (.inl rfl))
abbrev H8(st:Br)(x:Bj):Br:={st with js:=Hg x st.js}
theorem Qx5{st:Br}(h:Yu st){x:Bj}(b:JOk st.nodes x)(c:Qk st.js x.id=none)(d:st.js.length≤999):Yu (H8 st x):=h.jset (P2 h.Y4 (Kb c)) (fun y a=>by
 rcases Ks.1 a with rfl|a
 ·exact b
 ·exact h.Qu y a) (by rw[(Qcj x st.js).length_eq,Ka];omega)
theorem Qxq{st:Br}{id tier k w Qg ver:Nat}(b:id≤4294967295)(h:Ey st (Kl id tier k w Qg ver)=true):JOk st.nodes (Kl id tier k w Qg ver):=by
 unfold Ey at h;simp only[Z5]at h;obtain⟨⟨⟨⟨⟨⟨p,o⟩,m⟩,_⟩,l⟩,c⟩,j⟩:=h;have g1:id≠0:=U4 p;exact⟨by show 1≤id;omega,b,U4 j,U4 o,U4 m,U4 l,U4 c,U4 c,List.Pairwise.nil,fun n i=>(by cases i),fun d a=>(by cases a),fun d a=>(by cases a),fun r g=>(by cases g),fun e=>absurd (show (0:Nat)=1 from e) Qp,fun s f=>(by cases f)⟩
theorem Zgk(b:Nat)(st:Br)(ps:Nat→Nat)(id tier k w Qg ver s:Nat)(G:id≤4294967295)(c:Ey st (Kl id tier k w Qg ver)=true)(U:st.js.length≤999)(N:st.Qd.length≤900000)(Q:st.done.length≤900000) :
  Spec Tryz.prog 13 [pt b,.agg #[.int .u32 (id:Int),.int .u8 (tier:Int),.int .i64 (k:Int),.int .i64 (w:Int),.int .u8 (s:Int),.int .i64 (Qg:Int)],.int .u32 (ver:Int)] [BP b st ps] fun o v u=>∃C,v=.int .i64 (Ex st (Kl id tier k w Qg ver)).1∧u=BP b (Ex st (Kl id tier k w Qg ver)).2 C::o:=by
 refine Spec.J3 fun f=>?_;obtain⟨x,d⟩:∃x,x=Kl id tier k w Qg ver:=⟨_,rfl⟩;have p:JOk st.nodes x:=by rw[d];exact Qxq G c
 have B:x.id=id:=by subst d;rfl
 have V:=f.Ra;have P:1≤k:=by have:=p.k1;rw[d]at this;exact this
 have O:k≤st.nodes:=by have:=p.kn;rw[d]at this;exact this
 have T:1≤id:=by have:=p.P3;rw[d]at this;exact this
 have L:1≤w:=by
  unfold Ey at c;simp only[Z5]at c;exact U4 c.1.1.1.2
 have K:w≤10000:=by have:=p.w;rw[d]at this;exact this
 have R:Qg≤w:=by have:=p.cr;rw[d]at this;exact this
 have M:tier≤3:=by have:=p.tier;rw[d]at this;exact this
 refine Spec.Ht Tryz.func13 rfl Tryz.ntmps13 rfl ?_;intro J o;show S _ J [(0,pt b),(1,.agg #[.int .u32 (id:Int),.int .u8 (tier:Int),.int .i64 (k:Int),.int .i64 (w:Int),.int .u8 (s:Int),.int .i64 (Qg:Int)]),(2,.int .u32 (ver:Int))] (BP b st ps::o) _;refine S.W5 b st ps fun j jb m ov g h mv sb l n=>?_;cases q:Qk st.js id with
 | some y=>
  have r:Ex st (Kl id tier k w Qg ver)=(7,st):=by
   unfold Ex;rw[Qe (by rw[c];decide),Qh (by show (Qk st.js id).isSome=true;rw[q];rfl)]
  refine ZS (ZY 2 (Zp (S.box (cs:=[_,_,_,_,_,_]) rfl rfl rfl ?_)));intro z;refine ZY 8 (ZY 2 (ZF ef (Zy ?_)));refine Zd ([blk z 35 #[.int .u32 (id:Int),.int .u8 (tier:Int),.int .i64 (k:Int),.int .i64 (w:Int),.int .u8 (s:Int),.int .i64 (Qg:Int)],blk b 84 (bC st j jb m ov g h mv sb).toArray]) [] (Zra 0 4) (ZY 4 (Zu 15 false ef ((Q6 Qb)) ?_));refine Zr (Zra 4 5) (ZY 5 (Zu 20 false ef ((Q6 Qb)) ?_));refine Zr (Zra 9 10) (ZY 8 (ZY 2 (Zu 30 false ef ((Q6 Qb)) ?_)));refine Zr (Zra 19 5) (ZY 5 (Zu 35 false ef ((Q6 Qb)) ?_));refine Zr (Zra 24 5) (ZY 5 (Zu 40 false ef ((Q6 Qb)) ?_));refine Zr (Zra 29 5) (ZY 5 (Zu 45 false ef ((Q6 Qb)) ?_));refine Zr (Zra 34 7) (ZY 7 (Zu 52 false ef ((Q6 Qb)) ?_));refine Zr (Zra 41 5) (ZY 5 ?_);refine ZD ?_
  refine Zj ef (fun t=>?_) (fun t=>?_)
  ·exact absurd t Qb
  ·refine Zy ?_;refine Zd0 (Zra 0 9) (ZY 6 ?_);refine Zw ef (Qx (pt (ps y.id)) Tryz.underlying82 Tryz.underlying31 Tryz.Jv.h rfl rfl rfl (by rw[Un f.Y4 n.perm,q];rfl)) (ZY 2 ?_);refine ZD (ZT ef (ZY 5 (S.Yk b st ps j jb m ov g h mv sb l n ?_)));exact Zf ef Zq (⟨ps,by rw[r];rfl,by rw[r]⟩)
 | none=>
  have A:Qk st.js x.id=none:=by rw[B];exact q
  have r:Ex st (Kl id tier k w Qg ver)=(0,Yj (H8 st x) x):=by
   unfold Ex;rw[Qe (by rw[c];decide),Qe (by show ¬(Qk st.js id).isSome=true;rw[q];simp),d]
  have H:=Qx5 f p A U;refine ZS (ZY 2 (Zp (S.box (cs:=[_,_,_,_,_,_]) rfl rfl rfl ?_)));intro z;refine ZY 8 (ZY 2 (ZF ef (Zy ?_)));refine Zd ([blk z 35 #[.int .u32 (id:Int),.int .u8 (tier:Int),.int .i64 (k:Int),.int .i64 (w:Int),.int .u8 (s:Int),.int .i64 (Qg:Int)],blk b 84 (bC st j jb m ov g h mv sb).toArray]) [] (Zra 0 4) (ZY 4 (Zu 15 false ef ((Q6 Qb)) ?_));refine Zr (Zra 4 5) (ZY 5 (Zu 20 false ef ((Q6 Qb)) ?_));refine Zr (Zra 9 10) (ZY 8 (ZY 2 (Zu 30 false ef ((Q6 Qb)) ?_)));refine Zr (Zra 19 5) (ZY 5 (Zu 35 false ef ((Q6 Qb)) ?_));refine Zr (Zra 24 5) (ZY 5 (Zu 40 false ef ((Q6 Qb)) ?_));refine Zr (Zra 29 5) (ZY 5 (Zu 45 false ef ((Q6 Qb)) ?_));refine Zr (Zra 34 7) (ZY 7 (Zu 52 false ef ((Q6 Qb)) ?_));refine Zr (Zra 41 5) (ZY 5 ?_);refine ZD ?_
  refine Zj ef (fun t=>?_) (fun t=>?_)
  ·exact absurd t Qb
  ·refine Zy ?_;refine Zd0 (Zra 0 9) (ZY 6 ?_);refine Zw ef (Qx (.pointer none) Tryz.underlying82 Tryz.underlying31 Tryz.Jv.h rfl rfl rfl (by rw[Un f.Y4 n.perm,q];rfl)) (ZY 2 ?_);refine ZD (ZF ef (ZY 8 (ZY 4 ?_)));refine Zv (Ye (pvs:=[(_,_),(_,_),(_,_)]) [_,_,_,_,_,_,_,_,_,_,_,_,_,_,_,_,_] Tryz.z90.h Tryz.p90.h ⟨⟨rfl,rfl⟩,⟨rfl,rfl⟩,⟨rfl,rfl⟩,trivial⟩ rfl) (Zp (S.box (cs:=[_,_,_,_,_,_,_,_,_,_,_,_,_,_,_,_,_]) rfl rfl rfl ?_));intro a;refine ZY 3 ?_;refine Zd ([blk z 35 #[.int .u32 (id:Int),.int .u8 (tier:Int),.int .i64 (k:Int),.int .i64 (w:Int),.int .u8 0,.int .i64 (Qg:Int)],blk b 84 (bC st j jb m ov g h mv sb).toArray]) [7] (Zra 0 7) (ZY 7 ?_);refine Z1 (i:=7) ef ef ?_;refine(S.mapUpdate Tryz.underlying82 Tryz.underlying31 rfl rfl rfl rfl ?_);refine ZL ([]) [] ?_;refine ZD (ZY 4 ?_);have D:=Q4h ps id a;have E:Qk (H8 st x).js x.id=some x:=Q7m f.Y4 (Kb A)
   have I:Spec Tryz.prog 39 [pt b,pt a] [BP b (H8 st x) (psN ps id a)] fun o _ u=>u=BP b (Yj (H8 st x) x) (psN ps id a)::o:=by
    have:=Qib b (H8 st x) (psN ps id a) x E N Q;rw[B,D]at this;exact this
   have F:BF (H8 st x) (psN ps id a) ov g h mv sb (Xl (id:Int) (pt a) l):=⟨H,by rw[←B];exact Zpe f.Y4 n.perm A,n.on,n.im,n.dn,n.mn,n.sn⟩;refine S.X7 a (bjC x SV.nil none none none none).toArray (by subst d;rfl) ?_;refine S.Qs (show Ent _ (own SV.nil 3 1 (nds (Kl id tier k w Qg ver).at_)::_) from Ent.Xb 3 1) (S.Qs ((Ent.Qca _).trans ((Ent.Qca _).trans ((Qae _).trans (Qbw x.id _)))) ?_);refine S.sub (jX a x SV.nil none none none none (bX b st ps j jb m ov g h mv sb (Xl (id:Int) (pt a) l) o)) (e:=by subst d;infer_instance) ?_;refine S.Qas a x SV.nil none none none none (by subst d;rfl) (by subst d;rfl) (by subst d;rfl) (by subst d;rfl) (by subst d;rfl) (S.sub (JI a x::alls st.js (jI ps)::blk b 84 (bC st j jb m ov g h mv sb).toArray::Qz j .i64 (Vo st.up)::Qz jb .u32 (Xl (id:Int) (pt a) l)::MI m st.m::own ov 97 14 (st.Qd.flatMap odC)::imgs g st.Qf::own h 31 1 (Yp st.done)::own mv 31 1 (Yp st.members)::Vp sb st.stops::o) (S.Qs (Zpf (ps:=ps) (Kb A) _) ?_));rw[B];refine S.sub (bX b (H8 st x) (psN ps id a) j jb m ov g h mv sb (Xl (id:Int) (pt a) l) o) (S.Yk b (H8 st x) (psN ps id a) j jb m ov g h mv sb _ F (Zp (Zc1 Ze (I) ?_)));rintro v u rfl;refine ZY 6 ?_;exact Zf ef Zq (⟨psN ps id a,by rw[r];rfl,by rw[r]⟩)
end BN
theorem Q4c{P:Program}{n:Nat}{j:Env}{o:List Assn}{p:TypeId}{pos:String}{F:Array Edge}{C:Option (Nat×Bool)}{D:Option Tmp}{t:TypeId}{xs:List (Nat×Operand)}{pvs:List (Nat×Value)}{g:List Value}{m s:Nat}(c:List Value)(d:Uq P t=some g)(f:Q1u P t=some (m,s))(v:EvP j xs pvs)(u:Qid (fun i=>some (i*s,s)) g pvs=some c) :
  Qv P n j o ⟨D,.build t xs.toArray,p,pos,F,C⟩ (.agg c.toArray):=by
 intro a w A _
 have y:P.built t pvs=some c.toArray:=by
  unfold Uq at d;unfold Q1u at f;unfold Program.built;cases h:P.info? t with
  | none=>simp[h]at d
  | some i=>
   cases b:i.zero with
   | none=>simp[h,b]at d
   | some z=>
    simp only[h,b,Option.bind_some,U3,Km]at d;cases l:P.underlying t with
    | none=>simp[l]at f
    | some E=>
     cases E <;> simp[l]at f
     case array k e=>
      obtain⟨G,B,rfl,rfl⟩:=f;simp only[b,B];have:=Sy _ pvs g c u;rw[←d]at this
      simpa using this
 have q:=run_build (P:=P) w t pvs.toArray c.toArray y
 have r:(xs.toArray.map fun x:Nat×Operand=>(x.1,a.eval x.2))=pvs.toArray:=by
  have:=v.map A
  simpa using congrArg List.toArray this
 simp only[execOp,r,Sem.run_bind,q,Result.andThen_ok,Sem.run_pure]
namespace BN
theorem Q33(r:List Rn)(n:Nat)(v:Nat×Nat):Xl (n:Int) (rnV v) (Cc r)=Cc (Vn r n v):=by
 induction r with
 | nil=>rfl
 | cons y r a=>
  have h0:Cc (y::r)=((y.1:Int),rnV y.2)::Cc r:=rfl;rw[h0,Xl,Vn]
  by_cases h:n=y.1
  ·rw[Qh h,Qh (by simp[h])];rfl
  ·rw[Qe h,Qe (by simp;omega),a];rfl
theorem Qtw{r:List Rn}{n:Nat}{v:Nat×Nat}{y:Rn}(h:y∈Vn r n v):y∈r∨y.2=v:=by
 induction r with
 | nil=>
  rw[Vn,Vd]at h;exact .inr (by rw[h])
 | cons x r a=>
  rw[Vn]at h
  split at h
  ·rcases Yf.1 h with h|h
   ·exact .inr (by rw[h])
   ·exact .inl (Ym _ h)
  ·rcases Yf.1 h with h|h
   ·exact .inl (by rw[h];exact Z0 ..)
   ·rcases a h with h|h
    ·exact .inl (Ym _ h)
    ·exact .inr h
abbrev rnX(y:Bj)(r:List Rn)(n:Nat)(v:Nat×Nat):Bj:={y with X4:=some (Vn r n v)}
theorem JOk.rnX{N:Nat}{y:Bj}(h:JOk N y){r:List Rn}(d:y.X4=some r)(n:Nat){v:Nat×Nat}(c:v.1≤4294967295∧v.2≤4294967295):JOk N (rnX y r n v):=⟨h.P3,h.Rx,h.tier,h.k1,h.kn,h.w,h.cr,h.wk,h.Uy,h.at_,h.drop,h.lod,fun e b z a=>(by
 cases b
 rcases Qtw a with a|a
 ·exact h.X4 r d z a
 ·rw[a];exact c),h.ld,h.svl⟩
def Fb(b:Br)(n:Nat)(x:Nt):Br:=match Qk b.js x.Qu with
 | none=>b
 | some y=>match y.X4 with
  | none=>b
  | some r=>if 0<x.Kc∧n∈y.at_ then b.set {y with X4:=some (Vn r n (x.Kc,x.Jz))} else b
theorem J7{b:Br}{n:Nat}{x:Nt}(h:¬(n∈b.stops.getD []∧b.Qn=true∧x.gen=b.gen)):Ut b n x=b:=by
 rw[Ut,Qe];intro a;simp only[Z5,Zz]at a;exact h ⟨a.1.1,a.1.2,a.2⟩
theorem Cl{b:Br}{n:Nat}{x:Nt}(d:n∈b.stops.getD [])(c:b.Qn=true)(a:x.gen=b.gen):Ut b n x=Zt (Fb b n x) n:=by
 rw[Ut,Qh]
 ·rfl
 ·simp only[Z5,Zz];exact⟨⟨d,c⟩,a⟩
theorem Q4z{st:Br}(h:Yu st)(n:Nat){x:Nt}(c:x.Kc≤4294967295∧x.Jz≤4294967295):Yu (Fb st n x):=by
 unfold Fb
 split
 ·exact h
 ·rename_i y b;have a:Qk st.js y.id=some y:=by rw[(Qi b).2];exact b
  split
  ·exact h
  ·rename_i r d
   split
   ·exact h.set (x:=BN.rnX y r n (x.Kc,x.Jz)) ((h.at_ a).rnX d n c)
   ·exact h
theorem Qkp(st:Br)(n:Nat)(x:Nt):(Fb st n x).Qd=st.Qd:=by
 unfold Fb
 split
 ·rfl
 ·split
  ·rfl
  ·split <;> rfl
set_option maxHeartbeats 1000000 in
theorem Zdf(b:Nat)(st:Br)(ps:Nat→Nat)(n:Nat)(z:Nt)(v:SV)(Z:z.Kc≤4294967295∧z.Jz≤4294967295)(V:st.Qd.length≤880000):Spec Tryz.prog 66 [pt b,.int .i64 (n:Int),.agg (ntC z v).toArray] [BP b st ps] fun Q _ M=>M=BP b (Ut st n z) ps::Q:=by
 refine Spec.J3 fun d=>?_;refine Spec.Ht Tryz.func66 rfl Tryz.ntmps66 rfl ?_;intro Y Q;show S _ Y [(0,pt b),(1,.int .i64 (n:Int)),(2,.agg (ntC z v).toArray)] (BP b st ps::Q) _;cases B:Qk st.js z.Qu with
 | none=>
  have A:Fb st n z=st:=by rw[Fb,B]
  refine S.W5 b st ps fun m jb o ov p s mv sb l u=>?_;refine ZS (ZY 2 (Zp (S.box (cs:=[_,_,_,_,_,_,_,_,_,_,_,_,_]) rfl rfl rfl ?_)));intro O;refine ZY 3 ?_;refine Zd ([blk O 72 (ntC z v).toArray,blk b 84 (bC st m jb o ov p s mv sb).toArray]) [] (Zra 0 5) (ZY 5 ?_);refine Z1 (i:=5) ef ef ?_;refine  (Zcp Ze (Qnw sb st.stops n) ?_);refine Zk [6,7] (ZY 2 ?_)
  refine Zbb 14 ef (fun c=>?_) (fun c=>?_)
  ·have f:=J7 (b:=st) (n:=n) (x:=z) (fun h=>by rw[Zh h.1]at c;cases c);refine Zr (Zra 8 15) (ZY 8 (ZY 7 ?_));refine ZD (ZY 2 (S.Yk b st ps m jb o ov p s mv sb l u ?_));exact Zf ef Zq (by rw[f])
  ·refine Zr (Zra 8 7) (ZY 7 ?_)
   refine Zbb 21 ef (fun a=>?_) (fun a=>?_)
   ·have f:=J7 (b:=st) (n:=n) (x:=z) (fun h=>by rw[h.2.1]at a;cases a);refine Zr (Zra 15 8) (ZY 8 ?_);refine ZD (ZY 2 (S.Yk b st ps m jb o ov p s mv sb l u ?_));exact Zf ef Zq (by rw[f])
   ·refine Zr (Zra 15 8) (ZY 8 ?_);refine ZD ?_
    refine Zj ef (fun J=>?_) (fun J=>?_)
    ·have f:=J7 (b:=st) (n:=n) (x:=z) (fun h=>J (by rw[h.2.2]));refine Zy (S.Yk b st ps m jb o ov p s mv sb l u ?_);exact Zf ef Zq (by rw[f])
    ·have f:=Cl (b:=st) (n:=n) (x:=z) (by simpa using c) (by simpa using a) Qb;refine ZY 3 ?_;refine Zd0 (Zra 0 8) (ZY 6 ?_);refine Zw ef (Qx (.pointer none) Tryz.underlying82 Tryz.underlying31 Tryz.Jv.h rfl rfl rfl (by rw[Un d.Y4 u.perm,B];rfl)) (Zy ?_);refine ZD (ZY 8 (ZY 8 (ZY 8 (ZY 6 (S.Yk b st ps m jb o ov p s mv sb l u (Zp (Zc1 Ze (Gv b st ps n V) ?_)))))));rintro v M rfl;refine Zy ?_;exact Zfn ef Zq (by rw[f,A])
 | some y=>
 obtain⟨_,R⟩:=Qi B;have j:Qk st.js y.id=some y:=by rw[R];exact B
 have k:=d.at_ j;refine S.Uu b st ps y j fun m jb o ov p s mv sb l i C lb F rb E u I Yr a0 w=>?_;have X:Yh (z.Qu:Int) l=some (pt (ps y.id)):=by rw[Un d.Y4 u.perm,B];rfl
 cases N:y.X4 with
 | none=>
  have A:Fb st n z=st:=by rw[Fb,B];dsimp only;rw[N]
  have U:rb=none:=by have:=w.r;rw[N]at this;cases rb with|none=>rfl|some q=>cases this
  subst U;refine ZS (ZY 2 (Zp (S.box (cs:=[_,_,_,_,_,_,_,_,_,_,_,_,_]) rfl rfl rfl ?_)));intro O;refine ZY 3 ?_;refine Zd ([blk O 72 (ntC z v).toArray,blk b 84 (bC st m jb o ov p s mv sb).toArray]) [] (Zra 0 5) (ZY 5 ?_);refine Z1 (i:=5) ef ef ?_;refine  (Zcp Ze (Qnw sb st.stops n) ?_);refine Zk [6,7] (ZY 2 ?_)
  refine Zbb 14 ef (fun c=>?_) (fun c=>?_)
  ·have f:=J7 (b:=st) (n:=n) (x:=z) (fun h=>by rw[Zh h.1]at c;cases c);refine Zr (Zra 8 15) (ZY 8 (ZY 7 ?_));refine ZD (ZY 2 (S.Q0 b st ps m jb o ov p s mv sb l i y C lb F none E I rfl (Yr y rfl) (u.set k) w ?_));rw[Z4 d j];exact Zf ef Zq (by rw[f])
  ·refine Zr (Zra 8 7) (ZY 7 ?_)
   refine Zbb 21 ef (fun a=>?_) (fun a=>?_)
   ·have f:=J7 (b:=st) (n:=n) (x:=z) (fun h=>by rw[h.2.1]at a;cases a);refine Zr (Zra 15 8) (ZY 8 ?_);refine ZD (ZY 2 (S.Q0 b st ps m jb o ov p s mv sb l i y C lb F none E I rfl (Yr y rfl) (u.set k) w ?_));rw[Z4 d j];exact Zf ef Zq (by rw[f])
   ·refine Zr (Zra 15 8) (ZY 8 ?_);refine ZD ?_
    refine Zj ef (fun J=>?_) (fun J=>?_)
    ·have f:=J7 (b:=st) (n:=n) (x:=z) (fun h=>J (by rw[h.2.2]));refine Zy (S.Q0 b st ps m jb o ov p s mv sb l i y C lb F none E I rfl (Yr y rfl) (u.set k) w ?_);rw[Z4 d j];exact Zf ef Zq (by rw[f])
    ·have f:=Cl (b:=st) (n:=n) (x:=z) (by simpa using c) (by simpa using a) Qb;refine ZY 3 ?_;refine Zd0 (Zra 0 8) (ZY 6 ?_);refine Zw ef (Qx (pt (ps y.id)) Tryz.underlying82 Tryz.underlying31 Tryz.Jv.h rfl rfl rfl (by rw[X];rfl)) (Zy ?_);refine ZD (ZY 8 (Zy (Zvg ef ef ef (F7 Tryz.underlying88 rfl rfl) (ZY 8 (ZY 8 (ZY 4 (S.Q0 b st ps m jb o ov p s mv sb l i y C lb F none E I rfl (Yr y rfl) (u.set k) w ?_)))))));rw[Z4 d j];refine Zp (Zc1 Ze (Gv b st ps n V) ?_);rintro v M rfl;refine Zy ?_;exact Zfn ef Zq (by rw[f,A])
 | some r=>
  obtain⟨q,hq⟩:∃q,rb=some q:=by have:=w.r;rw[N]at this;cases rb with|none=>cases this|some q=>exact⟨q,rfl⟩
  subst hq;have A:Fb st n z=if 0<z.Kc∧n∈y.at_ then st.set (rnX y r n (z.Kc,z.Jz)) else st:=by rw[Fb,B];dsimp only;rw[N]
  have Us:=Qkp st n z;obtain⟨G,g⟩:∃G:Bj,G=rnX y r n (z.Kc,z.Jz):=⟨_,rfl⟩;have Nv:JOk st.nodes G:=by rw[g];exact k.rnX N n Z
  have P:G.id=y.id:=by rw[g]
  have T:G.X4=some (Vn r n (z.Kc,z.Jz)):=by rw[g]
  obtain⟨t,L⟩:∃t:Br,t=Fb st n z:=⟨_,rfl⟩;have K:t.Qd.length≤880000:=by rw[L,Us];exact V
  refine ZS (ZY 2 (Zp (S.box (cs:=[_,_,_,_,_,_,_,_,_,_,_,_,_]) rfl rfl rfl ?_)));intro O;refine ZY 3 ?_;refine Zd ([blk O 72 (ntC z v).toArray,blk b 84 (bC st m jb o ov p s mv sb).toArray]) [] (Zra 0 5) (ZY 5 ?_);refine Z1 (i:=5) ef ef ?_;refine  (Zcp Ze (Qnw sb st.stops n) ?_);refine Zk [6,7] (ZY 2 ?_)
  refine Zbb 14 ef (fun c=>?_) (fun c=>?_)
  ·have f:=J7 (b:=st) (n:=n) (x:=z) (fun h=>by rw[Zh h.1]at c;cases c);refine Zr (Zra 8 15) (ZY 8 (ZY 7 ?_));refine ZD (ZY 2 (S.Q0 b st ps m jb o ov p s mv sb l i y C lb F (some q) E I rfl (Yr y rfl) (u.set k) w ?_));rw[Z4 d j];exact Zf ef Zq (by rw[f])
  ·refine Zr (Zra 8 7) (ZY 7 ?_)
   refine Zbb 21 ef (fun a=>?_) (fun a=>?_)
   ·have f:=J7 (b:=st) (n:=n) (x:=z) (fun h=>by rw[h.2.1]at a;cases a);refine Zr (Zra 15 8) (ZY 8 ?_);refine ZD (ZY 2 (S.Q0 b st ps m jb o ov p s mv sb l i y C lb F (some q) E I rfl (Yr y rfl) (u.set k) w ?_));rw[Z4 d j];exact Zf ef Zq (by rw[f])
   ·refine Zr (Zra 15 8) (ZY 8 ?_);refine ZD ?_
    refine Zj ef (fun J=>?_) (fun J=>?_)
    ·have f:=J7 (b:=st) (n:=n) (x:=z) (fun h=>J (by rw[h.2.2]));refine Zy (S.Q0 b st ps m jb o ov p s mv sb l i y C lb F (some q) E I rfl (Yr y rfl) (u.set k) w ?_);rw[Z4 d j];exact Zf ef Zq (by rw[f])
    ·have f:=Cl (b:=st) (n:=n) (x:=z) (by simpa using c) (by simpa using a) Qb;refine ZY 3 ?_;refine Zd0 (Zra 0 8) (ZY 6 ?_);refine Zw ef (Qx (pt (ps y.id)) Tryz.underlying82 Tryz.underlying31 Tryz.Jv.h rfl rfl rfl (by rw[X];rfl)) (Zy ?_);refine ZD (ZY 8 (Zy (Zvg ef ef ef (F7 Tryz.underlying88 rfl rfl) (ZY 7 ?_))))
     refine Zb 51 ef (fun D=>?_) (fun D=>?_)
     ·refine ZY 5 (Zg ef ef ef (Zcp Ze (S8 (own C 3 1 (nds y.at_)) C y.at_ n w.an RdS.own) (ZY 2 ?_)))
      refine Zj ef (fun W=>?_) (fun W=>?_)
      ·have H:t=st.set G:=by rw[L,A,Qh ⟨Qb,W⟩,g]
       refine S.conv (M6 (some q) y.X4) (Ent.Ze2 N _) ?_;refine Zd ([blk O 72 (ntC z v).toArray,blk (ps y.id) 90 (bjC y C lb F (some q) E).toArray]) [10] (Zra 0 10) (ZY 8 (Zy ?_));refine Zw ef (Q4c (pvs:=[(_,_),(_,_)]) [_,_] Tryz.z175.h Tryz.Qry.h ⟨⟨rfl,rfl⟩,⟨rfl,rfl⟩,trivial⟩ rfl) ?_;refine Z1 (i:=10) ef ef ?_;refine(S.mapUpdate Tryz.underlying88 Tryz.underlying3 rfl rfl rfl rfl ?_);rw[Q33 r n (z.Kc,z.Jz)];refine S.conv (Qz q .i64 (Cc (Vn r n (z.Kc,z.Jz)))) (Ent.Zli T _) (S.X7 (ps y.id) (bjC G C lb F (some q) E).toArray (by rw[g]) ?_);refine S.sub (jX (ps y.id) G C lb F (some q) E (bR b st ps m jb o ov p s mv sb l i Q)) (e:=by subst g;infer_instance) ?_;refine S.Q0 b st ps m jb o ov p s mv sb l i G C lb F (some q) E I P (Yr G P) (u.set Nv) ⟨by rw[g];exact w.an,by rw[g];exact w.l,by rw[g];exact w.d,by rw[g];rfl,by rw[g];exact w.s⟩ ?_;refine S.conv (BP b (st.set G) ps) (show Ent _ (BP b t ps::_) by rw[H];exact Ent.refl _) ?_;refine ZL ([]) [] ?_;refine ZD (ZY 3 (Zp (Zc1 Ze (Gv b t ps n K) ?_)));rintro v M rfl;rw[L];refine Zy ?_;exact Zfn ef Zq (by rw[f])
      ·have H:t=st:=by rw[L,A,Qe (fun h=>W h.2)]
       refine S.Q0 b st ps m jb o ov p s mv sb l i y C lb F (some q) E I rfl (Yr y rfl) (u.set k) w ?_;rw[Z4 d j];refine S.conv (BP b st ps) (show Ent _ (BP b t ps::_) by rw[H];exact Ent.refl _) (ZY 4 (Zp (Zc1 Ze (Gv b t ps n K) ?_)));rintro v M rfl;rw[L];refine Zy ?_;exact Zfn ef Zq (by rw[f])
     ·have H:t=st:=by rw[L,A,Qe (fun h=>D Qb)]
      refine S.Q0 b st ps m jb o ov p s mv sb l i y C lb F (some q) E I rfl (Yr y rfl) (u.set k) w ?_;rw[Z4 d j];refine S.conv (BP b st ps) (show Ent _ (BP b t ps::_) by rw[H];exact Ent.refl _) (ZY 8 (ZY 5 (Zp (Zc1 Ze (Gv b t ps n K) ?_))));rintro v M rfl;rw[L];refine Zy ?_;exact Zfn ef Zq (by rw[f])
section
variable {n:Nat}{md:Bool}{w0:WM md}{ρ:Env}{Γ Δ:List Assn}{φ:Act→World→Prop}
theorem S.Dq(q a:Nat)(v:SV)(id:Nat)(s:Sv)[p:Picks [blk q 131 #[.int .u32 (id:Int),.int .u32 (s.ver:Int),.int .i64 (s.Qg:Int),v.v,.map (some a),.bool s.told],Qz a .i64 (Vo s.have_),if s.told then (fun _=>True) else blobs v s.bs] Γ Δ](k:S n w0 ρ (Jw (some q) id (some s)::Δ) φ):S n w0 ρ Γ φ:=
 S.Qs (p.Qs.trans ((Ent.pack [_,_,_] Δ).trans (Ent.Kg Δ fun _ s=>⟨a,v,s⟩))) k
end
theorem Q17(b:Nat)(st:Br)(ps:Nat→Nat):Spec Tryz.prog 17 [pt b] [BP b st ps] fun Γ v e=>v=.bool st.stops.isNone∧e=BP b st ps::Γ:=by
 refine Zbd Tryz.func17 rfl Tryz.ntmps17 fun w0 Γ=>Zsh ?_;refine S.W5 b st ps fun f jb g ov i j mv sb l d=>?_;have k:sb.isNone=st.stops.isNone:=(show ∀(a:Option Nat) (c:Option (List Nat)),a.isSome=c.isSome→a.isNone=c.isNone from fun a c h=>by cases a <;> cases c <;> first|rfl|cases h) _ _ d.sn;refine ZY 8 (ZY 5 (Zvg ef ef ef (Hz Tryz.underlying81 rfl rfl) (ZY 4 (S.Yk b st ps f jb g ov i j mv sb l d ?_))));exact Zf ef Zq (⟨by rw[←k];rfl,rfl⟩)
theorem Q82(b:Nat)(st:Br)(ps:Nat→Nat):Spec Tryz.prog 18 [pt b] [BP b st ps] fun Γ v a=>v=.int .u32 (st.gen:Int)∧a=BP b st ps::Γ:=by
 refine Zbd Tryz.func18 rfl Tryz.ntmps18 fun w0 Γ=>Zsh ?_;refine S.W5 b st ps fun c jb d ov e g mv sb l f=>(ZY 8 (ZY 2 (ZF ef (ZY 8 (ZY 2 (S.Yk b st ps c jb d ov e g mv sb l f ?_))))));exact Zf ef Zq (⟨rfl,rfl⟩)
theorem Zjx(b:Nat)(st:Br)(ps:Nat→Nat):Spec Tryz.prog 16 [pt b] [BP b st ps] fun Γ v i=>∃c:SV,v=c.v∧c.n=st.Qd.length∧i=own c 97 14 (st.Qd.flatMap odC)::BP b {st with Qd:=[]} ps::Γ:=by
 refine Spec.J3 fun d=>?_;refine Zbd Tryz.func16 rfl Tryz.ntmps16 fun w0 Γ=>Zsh ?_;refine S.W5 b st ps fun e jb f ov g h mv sb l a=>(ZY 8 (ZY 2 (ZF ef (ZY 8 (ZY 8 (ZY 6 ?_))))));refine S.Qs (show Ent _ (own SV.nil 97 14 (([]:List Od).flatMap odC)::_) from Ent.Xb 97 14) (S.sub (bX b {st with Qd:=[]} ps e jb f SV.nil g h mv sb l (own ov 97 14 (st.Qd.flatMap odC)::Γ)) ?_);refine S.Yk b {st with Qd:=[]} ps e jb f SV.nil g h mv sb l ⟨d.oset [],a.perm,rfl,a.im,a.dn,a.mn,a.sn⟩ ?_;exact Zf ef Zq (⟨ov,rfl,a.on,rfl⟩)
theorem Qm0{st:Br}{x:Bj}{s:Sv}{ver:Nat}{ok:Bool}(b:Qk st.js x.id=some x)(a:x.Xg=some s)(h:s.told=false∨s.ver≠ver):Q5 st x.id ver ok=(6,st):=by
 unfold Q5;rw[b];show (match x.Xg with|none=>_|some s=>_)=_;rw[a];exact Qh h
theorem Qxc{st:Br}{x:Bj}{s:Sv}{ver:Nat}{ok:Bool}(b:Qk st.js x.id=some x)(a:x.Xg=some s)(d:s.told=true)(c:s.ver=ver):Q5 st x.id ver ok=(0,Yj st {x with Qg:=if ok then s.Qg else x.Qg,Xg:=none}):=by
 unfold Q5;rw[b];show (match x.Xg with|none=>_|some s=>_)=_;rw[a];exact Qe (fun h=>by rcases h with h|h;(rw[d]at h;cases h);exact h c)
theorem Qr8(b:Nat)(st:Br)(ps:Nat→Nat)(id ver:Nat)(ok:Bool)(L:st.Qd.length≤900000)(M:st.done.length≤900000):Spec Tryz.prog 32 [pt b,.int .u32 (id:Int),.int .u32 (ver:Int),.bool ok] [BP b st ps] fun Γ v A=>v=.int .i64 (Q5 st id ver ok).1∧A=BP b (Q5 st id ver ok).2 ps::Γ:=by
 refine Spec.J3 fun m=>?_;refine Spec.Ht Tryz.func32 rfl Tryz.ntmps32 rfl ?_;intro w0 Γ;show S _ w0 [(0,pt b),(1,.int .u32 (id:Int)),(2,.int .u32 (ver:Int)),(3,.bool ok)] (BP b st ps::Γ) _;cases H:Qk st.js id with
 | none=>
  have g:Q5 st id ver ok=(6,st):=by rw[Q5,H]
  refine S.W5 b st ps fun o jb p ov r u mv sb l t=>?_;refine ZS (ZY 8 (ZY 7 ?_));refine Zvg ef ef ef (Qx (.pointer none) Tryz.underlying82 Tryz.underlying31 Tryz.Jv.h rfl rfl rfl (by rw[Un m.Y4 t.perm,H];rfl)) (ZY 3 (ZT ef (ZY 5 (S.Yk b st ps o jb p ov r u mv sb l t ?_))));exact Zf ef Zq (⟨by rw[g];rfl,by rw[g]⟩)
 | some x=>
 obtain⟨_,P⟩:=Qi H;subst P;have d:=H;have f:=m.at_ d;refine S.Uu b st ps x d fun o jb p ov r u mv sb l i z lb w rb F t C Yr N n=>?_;have E:Yh (x.id:Int) l=some (pt (ps x.id)):=by rw[Un m.Y4 t.perm,d];rfl
 cases j:x.Xg with
 | none=>
  have g:Q5 st x.id ver ok=(6,st):=by rw[Q5,d];dsimp only;rw[j]
  have I:F=none:=by have:=n.s;rw[j]at this;cases F with|none=>rfl|some q=>cases this
  subst I;refine ZS (ZY 8 (ZY 7 ?_));refine Zvg ef ef ef (Qx (pt (ps x.id)) Tryz.underlying82 Tryz.underlying31 Tryz.Jv.h rfl rfl rfl (by rw[E];rfl)) (ZY 3 (ZF ef (ZY 8 ?_)));refine Zv (Qx (pt (ps x.id)) Tryz.underlying82 Tryz.underlying31 Tryz.Jv.h rfl rfl rfl (by rw[E];rfl)) (ZY 8 (ZY 8 (ZY 8 (ZY 8 (ZY 7 (S.Q0 b st ps o jb p ov r u mv sb l i x z lb w rb none C rfl (Yr x rfl) (t.set f) n ?_))))));rw[Z4 m d];exact Zf ef Zq (⟨by rw[g];rfl,by rw[g]⟩)
 | some s=>
  obtain⟨q,O⟩:∃q,F=some q:=by have:=n.s;rw[j]at this;cases F with|none=>cases this|some q=>exact⟨q,rfl⟩
  subst O;refine S.conv (Jw (some q) x.id x.Xg) (show Ent _ (Jw (some q) x.id (some s)::_) by rw[j];exact Ent.refl _) ?_;refine S.Qmk q x.id s fun G sv=>?_;cases ok with
  | true=>
  obtain⟨c,h⟩:∃c:Bj,c={x with Qg:=s.Qg,Xg:=none}:=⟨_,rfl⟩;have K:JOk st.nodes c:=by rw[h];exact⟨f.P3,f.Rx,f.tier,f.k1,f.kn,f.w,(f.svl s j).2,f.wk,f.Uy,f.at_,f.drop,f.lod,f.X4,f.ld,fun s j=>(by cases j)⟩
  have k:c.id=x.id:=by rw[h]
  have B:Qk (st.set c).js c.id=some c:=Bu st (by rw[k];exact d)
  have D:Spec Tryz.prog 39 [pt b,pt (ps x.id)] [BP b (st.set c) ps] fun Γ _ A=>A=BP b (Yj (st.set c) c) ps::Γ:=by
   rw[←k];exact Qib b _ ps c B L M
  refine ZS (ZY 8 (ZY 7 ?_));refine Zvg ef ef ef (Qx (pt (ps x.id)) Tryz.underlying82 Tryz.underlying31 Tryz.Jv.h rfl rfl rfl (by rw[E];rfl)) (ZY 3 (ZF ef (ZY 8 ?_)));refine Zv (Qx (pt (ps x.id)) Tryz.underlying82 Tryz.underlying31 Tryz.Jv.h rfl rfl rfl (by rw[E];rfl)) (ZY 8 (ZY 8 (ZY 5 ?_)))
  refine Zbb 42 ef (fun a=>?_) (fun a=>?_)
  ·have g:=Qm0 (ok:=true) d j (.inl (show s.told=false by simpa using a)) (ver:=ver);refine ZY 8 (ZY 8 (ZY 2 (S.Dq q G sv x.id s ?_)));refine S.conv (Jw (some q) x.id (some s)) (show Ent _ (Jw (some q) x.id x.Xg::_) by rw[j];exact Ent.refl _) (S.Q0 b st ps o jb p ov r u mv sb l i x z lb w rb (some q) C rfl (Yr x rfl) (t.set f) n ?_);rw[Z4 m d];exact Zf ef Zq (⟨by rw[g];rfl,by rw[g]⟩)
  ·refine ZY 8 (ZY 4 ?_)
   refine Zj ef (fun J=>?_) (fun J=>?_)
   ·have g:=Qm0 (ok:=true) d j (ver:=ver) (.inr Qb);refine ZY 5 (S.Dq q G sv x.id s ?_);refine S.conv (Jw (some q) x.id (some s)) (show Ent _ (Jw (some q) x.id x.Xg::_) by rw[j];exact Ent.refl _) (S.Q0 b st ps o jb p ov r u mv sb l i x z lb w rb (some q) C rfl (Yr x rfl) (t.set f) n ?_);rw[Z4 m d];exact Zf ef Zq (⟨by rw[g];rfl,by rw[g]⟩)
   ·have g:Q5 st x.id ver true=(0,Yj st c):=by rw[h];exact Qxc (ok:=true) d j (by simpa using a) Qb
    refine ZY 6 (ZT ef (ZY 8 (ZY 8 (ZY 8 (ZY 2 ?_)))));refine S.X7 (ps x.id) (bjC c z lb w rb none).toArray (by rw[h];rfl) (S.Qs (Qbw x.id _) ?_);refine S.sub (jX (ps x.id) c z lb w rb none (bR b st ps o jb p ov r u mv sb l i Γ)) (e:=by subst h;infer_instance) ?_;refine S.Q0 b st ps o jb p ov r u mv sb l i c z lb w rb none C k (Yr c k) (t.set K) ⟨by rw[h];exact n.an,by rw[h];exact n.l,by rw[h];exact n.d,by rw[h];exact n.r,by rw[h];rfl⟩ (Zp (Zc1 Ze (D) ?_));rintro v A rfl;rw[Qia st (x:=c) (y:=c) rfl];refine ZY 6 ?_;exact Zf ef Zq (⟨by rw[g];rfl,by rw[g]⟩)
  | false=>
  obtain⟨c,h⟩:∃c:Bj,c={x with Qg:=x.Qg,Xg:=none}:=⟨_,rfl⟩;have K:JOk st.nodes c:=by rw[h];exact⟨f.P3,f.Rx,f.tier,f.k1,f.kn,f.w,f.cr,f.wk,f.Uy,f.at_,f.drop,f.lod,f.X4,f.ld,fun s j=>(by cases j)⟩
  have k:c.id=x.id:=by rw[h]
  have B:Qk (st.set c).js c.id=some c:=Bu st (by rw[k];exact d)
  have D:Spec Tryz.prog 39 [pt b,pt (ps x.id)] [BP b (st.set c) ps] fun Γ _ A=>A=BP b (Yj (st.set c) c) ps::Γ:=by
   rw[←k];exact Qib b _ ps c B L M
  refine ZS (ZY 8 (ZY 7 ?_));refine Zvg ef ef ef (Qx (pt (ps x.id)) Tryz.underlying82 Tryz.underlying31 Tryz.Jv.h rfl rfl rfl (by rw[E];rfl)) (ZY 3 (ZF ef (ZY 8 ?_)));refine Zv (Qx (pt (ps x.id)) Tryz.underlying82 Tryz.underlying31 Tryz.Jv.h rfl rfl rfl (by rw[E];rfl)) (ZY 8 (ZY 8 (ZY 5 ?_)))
  refine Zbb 42 ef (fun a=>?_) (fun a=>?_)
  ·have g:=Qm0 (ok:=false) d j (.inl (show s.told=false by simpa using a)) (ver:=ver);refine ZY 8 (ZY 8 (ZY 2 (S.Dq q G sv x.id s ?_)));refine S.conv (Jw (some q) x.id (some s)) (show Ent _ (Jw (some q) x.id x.Xg::_) by rw[j];exact Ent.refl _) (S.Q0 b st ps o jb p ov r u mv sb l i x z lb w rb (some q) C rfl (Yr x rfl) (t.set f) n ?_);rw[Z4 m d];exact Zf ef Zq (⟨by rw[g];rfl,by rw[g]⟩)
  ·refine ZY 8 (ZY 4 ?_)
   refine Zj ef (fun J=>?_) (fun J=>?_)
   ·have g:=Qm0 (ok:=false) d j (ver:=ver) (.inr Qb);refine ZY 5 (S.Dq q G sv x.id s ?_);refine S.conv (Jw (some q) x.id (some s)) (show Ent _ (Jw (some q) x.id x.Xg::_) by rw[j];exact Ent.refl _) (S.Q0 b st ps o jb p ov r u mv sb l i x z lb w rb (some q) C rfl (Yr x rfl) (t.set f) n ?_);rw[Z4 m d];exact Zf ef Zq (⟨by rw[g];rfl,by rw[g]⟩)
   ·have g:Q5 st x.id ver false=(0,Yj st c):=by rw[h];exact Qxc (ok:=false) d j (by simpa using a) Qb
    refine ZY 6 (ZF ef (ZY 8 (ZY 4 ?_)));refine S.X7 (ps x.id) (bjC c z lb w rb none).toArray (by rw[h];rfl) (S.Qs (Qbw x.id _) ?_);refine S.sub (jX (ps x.id) c z lb w rb none (bR b st ps o jb p ov r u mv sb l i Γ)) (e:=by subst h;infer_instance) ?_;refine S.Q0 b st ps o jb p ov r u mv sb l i c z lb w rb none C k (Yr c k) (t.set K) ⟨by rw[h];exact n.an,by rw[h];exact n.l,by rw[h];exact n.d,by rw[h];exact n.r,by rw[h];rfl⟩ (Zp (Zc1 Ze (D) ?_));rintro v A rfl;rw[Qia st (x:=c) (y:=c) rfl];refine ZY 6 ?_;exact Zf ef Zq (⟨by rw[g];rfl,by rw[g]⟩)
abbrev Qwo(st:Br)(n:Nat):Od:=(n,{kind:=6,gen:=st.gen})
theorem Yu.Yr{st:Br}(h:Yu st)(a:Bool):Yu {st with Qn:=a}:=⟨h.R,h.N,h.Fu,h.Y4,fun x b=>h.Qu x b,h.Dk,h.q1,h.q2,h.g1,h.g2,h.now,h.fin,h.mem,h.C4⟩
theorem Q3b(b:Nat)(st:Br)(ps:Nat→Nat)(H:st.Qd.length≤900000):Spec Tryz.prog 41 [pt b] [BP b st ps] fun p _ x=>x=BP b (Di st) ps::p:=by
 refine Spec.J3 fun k=>?_;have J:=k.Ra;refine Zbd Tryz.func41 rfl Tryz.ntmps41 fun F p=>Zsh ?_;refine S.W5 b st ps fun r jb s ov t w mv sb l f=>(ZY 8 (ZY 8 (Zy ?_)));refine Zl (fun q g h=>∃(i:Nat) (ns:List Nat) (os:List Od) (a:SV),q=st.nodes-i∧i≤st.nodes∧ns=(List.range i).filter (fun n=>decide (n∈st.stops.getD []))∧ns.length≤i∧os=st.Qd++ns.map (Qwo st)∧a.n=os.length∧g=[(0,pt b),(10,.int .i64 (st.nodes:Int)),(11,.int .i64 (i:Int))]∧h=bX b {st with Qn:=true,Qd:=os} ps r jb s a t w mv sb l p) (m:=_) (⟨0,[],st.Qd,ov,rfl,Qb,rfl,Q1 0,Q2,f.on,rfl,rfl⟩) ?_;rintro q g h ⟨i,ns,os,a,G,I,e,B,c,o,rfl,rfl⟩;have A:os.length≤900016:=by rw[c,Yd,Qo];omega
 refine ZY 5 ?_
 refine Zj ef (fun E=>?_) (fun E=>?_)
 ·have C:i<st.nodes:=Qb
  refine ZY 8 (ZY 7 (Zp (Zcp Ze (Qnw sb st.stops i) (Zy ?_))))
  refine Zj ef (fun u=>?_) (fun u=>?_)
  ·have d:ns++[i]=(List.range (i+1)).filter (fun n=>decide (n∈st.stops.getD [])):=by rw[Qol,Gu,←e];simp[u]
   have z:os++[((i,{kind:=6,gen:=st.gen}):Od)]=st.Qd++(ns++[i]).map (Qwo st):=by rw[c,Vc,Wb];rfl
   refine ZY 7 ?_;refine Zv (Ye (pvs:=[(_,_),(_,_)]) [_,_,_,_,_,_,_,_,_,_,_,_,_] Tryz.z72.h Tryz.p72.h ⟨⟨rfl,rfl⟩,⟨rfl,rfl⟩,trivial⟩ rfl) (Zp (Zc1 Ze (Bp b {st with Qn:=true,Qd:=os} r jb s a t w mv sb i {kind:=6,gen:=st.gen} os o Qb) ?_));rintro v x ⟨j,y,rfl⟩;refine ZY 2 (Zv (Za ef ef) (ZY 2 ?_));first|exact ZX (q-1) ⟨i+1,ns++[i],os++[((i,{kind:=6,gen:=st.gen}):Od)],j,Qb,Qb,d,by rw[Yd,Y0];omega,z,y,rfl,rfl⟩ Qb|exact ZX (q-1) ⟨i+1,ns,os,a,Qb,Qb,d,Qb,c,o,rfl,rfl⟩ Qb
  ·have d:ns=(List.range (i+1)).filter (fun n=>decide (n∈st.stops.getD [])):=by rw[Qol,Gu,←e];simp[u]
   refine ZY 2 (Zv (Za ef ef) (ZY 2 ?_));first|exact ZX (q-1) ⟨i+1,ns++[i],os++[((i,{kind:=6,gen:=st.gen}):Od)],j,Qb,Qb,d,by rw[Yd,Y0];omega,z,y,rfl,rfl⟩ Qb|exact ZX (q-1) ⟨i+1,ns,os,a,Qb,Qb,d,Qb,c,o,rfl,rfl⟩ Qb
 ·have D:Di st={st with Qn:=true,Qd:=os}:=by rw[Di,c,e,show i=st.nodes by omega]
  refine Zy ?_;refine S.Yk b {st with Qn:=true,Qd:=os} ps r jb s a t w mv sb l ⟨(k.oset os).Yr true,f.perm,o,f.im,f.dn,f.mn,f.sn⟩ ?_;exact Zfn ef Zq (by rw[D])
theorem Qhu:Cw Q4:=by
 refine⟨fun st x h a=>?_,fun st x id b=>?_,fun st x h a=>?_⟩
 ·unfold Q4
  split
  ·exact Qrp h (h.at_ a) true
  ·exact h
 ·unfold Q4
  split
  ·exact Qro st true b
  ·rfl
 ·unfold Q4
  split
  ·have d:=(Co st x true).1;have c:=Qk0 h a;omega
  ·omega
theorem Qk1{st:Br}{x:Bj}(h:x.Wp=true∧x.Ql=none∧(x.C5≤st.now∨(x.work=x.Qg∧x.Xg.isNone))):Q4 st x=Wd st x true:=Qh h
theorem Qap{st:Br}{x:Bj}(h:¬(x.Wp=true∧x.Ql=none∧(x.C5≤st.now∨(x.work=x.Qg∧x.Xg.isNone)))):Q4 st x=st:=Qe h
theorem Zlr{d b:Type}{a:Option d}{c:Option b}(h:a.isSome=c.isSome):a.isNone=c.isNone:=by cases a <;> cases c <;> first|rfl|cases h
set_option maxHeartbeats 1000000 in
theorem Zce(b:Nat)(st:Br)(ps:Nat→Nat)(hl:st.Qd.length≤880000):Spec Tryz.prog 42 [pt b] [BP b st ps] fun O _ L=>L=BP b (each Q4 st st.ids) ps::O:=by
 refine Spec.J3 fun K=>?_;have Sq:=K.Dk;refine Zbd Tryz.func42 rfl Tryz.ntmps42 fun w0 O=>Zsh (ZY 3 (Zp (Zc1 Ze (Qip b st ps) ?_)));rintro v L ⟨E,rfl,a0,rfl⟩;refine S.Xn E fun Z Bt Y=>?_;have X:maxLen≤9223372036854775807:=by unfold maxLen;omega
 refine ZY 4 ?_;refine Zl (fun q F G=>∃(e:Nat) (t:Br),q=st.js.length-e∧e≤st.js.length∧t=each Q4 st (st.ids.take e)∧F=[(0,pt b),(5,E.v),(6,.int .i64 (E.n:Int)),(7,.int .i64 (e:Int))]∧G=own E 86 1 (pts ps st.js)::BP b t ps::O) (m:=_) (⟨0,st,rfl,Qb,rfl,rfl,rfl⟩) ?_;rintro q F G ⟨e,t,hq,he,I,rfl,rfl⟩;have M:=Mc Qhu K e he;have R:=M.ord;have H:t.Qd.length≤900000:=by rw[I];exact Up R Qb
 refine ZY 5 ?_
 refine Zj ef (fun h1=>?_) (fun h1=>?_)
 ·refine S.Q7 E Qb fun sb so T _ _ _=>?_;obtain⟨x,P⟩:=Xs (show e<st.js.length by omega);have j:Qk t.js x.id=some x:=by rw[I];exact M.here e x (Q1 e) P
  have g:each Q4 st (st.ids.take (e+1))=Q4 t x:=by rw[I];exact Mb M P
  have d:Yu t:=by rw[I];exact M.ok
  have C:=d.at_ j;refine S.Uu b t ps x j fun p jb r ov s w mv sb l i y lb o rb k B A Yr W n=>?_;have U:o.isNone=x.Ql.isNone:=Zlr n.d;have J:(k.map fun b=>(⟨b,0,none⟩:Addr)).isNone=x.Xg.isNone:=Zlr (by rw[Option.isSome_map];exact n.s);refine ZY 5 (Zv (Zx (e) ef (T) ef Qb) ?_);refine Zv (Zo (E) (e) ef (T) (by rw[Q8,P];rfl)) ?_;refine ZY 3 ?_;refine Zd ([blk (ps x.id) 90 (bjC x y lb o rb k).toArray,blk b 84 (bC t p jb r ov s w mv sb).toArray]) [] (Zra 0 5) (ZY 5 ?_)
  refine Zbb 15 ef (fun c=>?_) (fun c=>?_)
  ·refine Zr (Zra 5 7) (ZY 4 ?_);refine Zwg ef ef ef ef (Hz Tryz.underlying81 rfl rfl) (ZY 2 ?_)
   refine Zbb 22 ef (fun a=>?_) (fun a=>?_)
   ·have V:x.Ql=none:=by rw[U]at a;exact Qef.1 a
    refine Zr (Zra 12 10) (ZY 8 (ZY 2 ?_))
    refine Zb 32 ef (fun u=>?_) (fun u=>?_)
    ·have D:=Qk1 (st:=t) (x:=x) ⟨c,V,.inl Qb⟩;refine Zr (Zra 22 19) (ZY 8 (ZY 8 (ZY 3 ?_)));refine ZD (ZY 4 (S.Q0 b t ps p jb r ov s w mv sb l i x y lb o rb k A rfl (Yr x rfl) (B.set C) n ?_));rw[Z4 d j];refine Zp (Zc1 Ze (Qih b t ps x true j H) ?_);rintro v L rfl;refine ZY 2 (Zv (Za ef ef) (ZY 2 ?_));first|exact ZX (q-1) ⟨e+1,Wd t x true,Qb,Qb,by rw[g,D],rfl,rfl⟩ Qb|(refine S.Q0 b t ps p jb r ov s w mv sb l i x y lb o rb k A rfl (Yr x rfl) (B.set C) n ?_;rw[Z4 d j];exact ZX (q-1) ⟨e+1,t,Qb,Qb,by rw[g,z],rfl,rfl⟩ Qb)
    ·refine Zr (Zra 22 11) (ZY 8 (ZY 3 ?_))
     refine Zb 43 ef (fun f=>?_) (fun f=>?_)
     ·refine Zr (Zra 33 8) (ZY 8 ?_);refine ZD ?_
      refine Zi ef (fun N=>?_) (fun N=>?_)
      ·have D:=Qk1 (st:=t) (x:=x) ⟨c,V,.inr ⟨Qb,by rw[←J];exact N⟩⟩;refine ZY 3 (S.Q0 b t ps p jb r ov s w mv sb l i x y lb o rb k A rfl (Yr x rfl) (B.set C) n ?_);rw[Z4 d j];refine Zp (Zc1 Ze (Qih b t ps x true j H) ?_);rintro v L rfl;refine ZY 2 (Zv (Za ef ef) (ZY 2 ?_));first|exact ZX (q-1) ⟨e+1,Wd t x true,Qb,Qb,by rw[g,D],rfl,rfl⟩ Qb|(refine S.Q0 b t ps p jb r ov s w mv sb l i x y lb o rb k A rfl (Yr x rfl) (B.set C) n ?_;rw[Z4 d j];exact ZX (q-1) ⟨e+1,t,Qb,Qb,by rw[g,z],rfl,rfl⟩ Qb)
      ·have z:=Qap (st:=t) (x:=x) (fun h=>by rcases h.2.2 with h|h;omega;rw[←J]at h;rw[h.2]at N;cases N);refine ZY 2 (Zv (Za ef ef) (ZY 2 ?_));first|exact ZX (q-1) ⟨e+1,Wd t x true,Qb,Qb,by rw[g,D],rfl,rfl⟩ Qb|(refine S.Q0 b t ps p jb r ov s w mv sb l i x y lb o rb k A rfl (Yr x rfl) (B.set C) n ?_;rw[Z4 d j];exact ZX (q-1) ⟨e+1,t,Qb,Qb,by rw[g,z],rfl,rfl⟩ Qb)
     ·have z:=Qap (st:=t) (x:=x) (fun h=>by rcases h.2.2 with h|h;omega;exact f (by rw[h.1]));refine Zr (Zra 33 8) (ZY 8 ?_);refine ZD (ZY 3 (Zv (Za ef ef) (ZY 2 ?_)));first|exact ZX (q-1) ⟨e+1,Wd t x true,Qb,Qb,by rw[g,D],rfl,rfl⟩ Qb|(refine S.Q0 b t ps p jb r ov s w mv sb l i x y lb o rb k A rfl (Yr x rfl) (B.set C) n ?_;rw[Z4 d j];exact ZX (q-1) ⟨e+1,t,Qb,Qb,by rw[g,z],rfl,rfl⟩ Qb)
   ·have z:=Qap (st:=t) (x:=x) (fun h=>by rw[U,h.2.1]at a;cases a);refine Zr (Zra 12 29) (ZY 8 (ZY 8 (ZY 8 (ZY 5 ?_))));refine ZD (ZY 3 (Zv (Za ef ef) (ZY 2 ?_)));first|exact ZX (q-1) ⟨e+1,Wd t x true,Qb,Qb,by rw[g,D],rfl,rfl⟩ Qb|(refine S.Q0 b t ps p jb r ov s w mv sb l i x y lb o rb k A rfl (Yr x rfl) (B.set C) n ?_;rw[Z4 d j];exact ZX (q-1) ⟨e+1,t,Qb,Qb,by rw[g,z],rfl,rfl⟩ Qb)
  ·have z:=Qap (st:=t) (x:=x) (fun h=>by rw[h.1]at c;cases c);refine Zr (Zra 5 36) (ZY 8 (ZY 8 (ZY 8 (ZY 8 (ZY 4 ?_)))));refine ZD (ZY 3 (Zv (Za ef ef) (ZY 2 ?_)));first|exact ZX (q-1) ⟨e+1,Wd t x true,Qb,Qb,by rw[g,D],rfl,rfl⟩ Qb|(refine S.Q0 b t ps p jb r ov s w mv sb l i x y lb o rb k A rfl (Yr x rfl) (B.set C) n ?_;rw[Z4 d j];exact ZX (q-1) ⟨e+1,t,Qb,Qb,by rw[g,z],rfl,rfl⟩ Qb)
 ·have Q:e=st.js.length:=Qb
  refine Zy ?_;exact Zfn ef Zq (by rw[←Me Q,←I])
theorem Zj9(b:Nat)(st:Br)(ps:Nat→Nat):Spec Tryz.prog 33 [pt b] [BP b st ps] fun c v j=>∃d:SV,v=d.v∧d.n=st.done.length∧j=own d 31 1 (Yp st.done)::BP b {st with done:=[]} ps::c:=by
 refine Spec.J3 fun e=>?_;refine Zbd Tryz.func33 rfl Tryz.ntmps33 fun k c=>Zsh ?_;refine S.W5 b st ps fun f jb g ov h i mv sb l a=>(ZY 8 (ZY 2 (ZF ef (ZY 8 (ZY 8 (ZY 6 ?_))))));refine S.Qs (show Ent _ (own SV.nil 31 1 (Yp ([]:List Nat))::_) from Ent.Xb 31 1) (S.sub (bX b {st with done:=[]} ps f jb g ov h SV.nil mv sb l (own i 31 1 (Yp st.done)::c)) ?_);refine S.Yk b {st with done:=[]} ps f jb g ov h SV.nil mv sb l ⟨e.dset [],a.perm,a.on,a.im,rfl,a.mn,a.sn⟩ ?_;exact Zf ef Zq (⟨i,rfl,a.dn,rfl⟩)
theorem Qod(b:Nat)(st:Br)(ps:Nat→Nat):Spec Tryz.prog 27 [pt b] [BP b st ps] fun m v e=>∃f:SV,v=f.v∧f.n=st.js.length∧e=own f 31 1 (Yp st.ids)::BP b st ps::m:=by
 refine Spec.J3 fun d=>?_;have w:=d.Dk;refine Zbd Tryz.func27 rfl Tryz.ntmps27 fun t m=>Zsh ?_;refine S.W5 b st ps fun n jb o ov p q mv sb l k=>?_;have i:l.length≤65535:=by rw[k.perm.length_eq,Qo];omega
 refine ZY 8 (ZY 2 (ZF ef (ZY 7 (Zp (Zc1 Ze (Q8y jb) ?_)))));rintro v e ⟨c,rfl,rfl⟩;refine Zp (Zc1 Ze (Qr5 c jb l i) ?_);rintro v e ⟨sv,xs,rfl,y,s,g,rfl⟩
 have a:xs=st.js.map fun x=>(x.id:Int):=by
  refine Qme (s.trans ?_) g ?_
  ·have:=k.perm.map (·.1);rw[Kk]at this;exact this
  ·exact Ww.2 (d.Y4.imp fun h=>Qb)
 have u:xs.length=st.js.length:=by rw[a,Qo]
 have r:xs.map kv=Yp st.ids:=by
  rw[a,Kk];show _=(st.js.map (fun x=>x.id)).map (fun j:Nat=>Value.int .u32 (j:Int));rw[Kk];rfl
 rw[r];refine ZY 3 (S.Yk b st ps n jb o ov p q mv sb l k ?_);exact Zf ef Zq (⟨sv,rfl,Qb,rfl⟩)
end BN
theorem S.Q35{n:Nat}{md:Bool}{w0:WM md}{ρ:Env}{Γ:List Assn}{φ:Act→World→Prop}{R:Assn}{s:SV}{m e:Nat}{xs:List Value}(h:RdS R s m e xs){Δ:List Assn}[p:Pick R Γ Δ](k:(s.a=none→m=0)→S n w0 ρ Γ φ):S n w0 ρ Γ φ:=by
 intro a w i c f;refine k (fun g=>W7 fun h0=>?_) a w i c f;obtain⟨b,off,d,_⟩:=F1 (h.at_ c) (Q86 h0);rw[g]at d;cases d
namespace BN
theorem Q8e(R:Assn)(s:SV)(xs:List Int)(l:s.n=xs.length)(a:RdS R s s.n 1 (bcells xs))(k:xs.length≤1000000):Spec Tryz.prog 105 [s.v] [R] fun Γ v c=>∃u:SV,v=u.v∧u.n=xs.length∧c=own u 5 1 (bcells xs)::R::Γ:=by
 refine Zbd Tryz.func105 rfl Tryz.ntmps105 fun w0 Γ=>Zsh ?_;refine S.T6 a fun _ f e=>?_;refine S.Q35 a fun i=>(ZY 8 (ZY 2 ?_))
 refine Zi ef (fun b=>?_) (fun b=>?_)
 ·obtain rfl:xs=[]:=Ae (by have:=i (Qef.1 b);omega);refine ZY 5 ?_;refine S.Qs (show Ent _ (own SV.nil 5 1 (bcells [])::_) from Ent.Xb 5 1) ?_;exact Zf ef Zq (⟨SV.nil,rfl,rfl,rfl⟩)
 ·refine ZY 3 (Zp (S.Ev Tryz.underlying22 Tryz.Zcm.h rfl ?_));intro h g;refine Zy ?_;refine Zp (S.Z6 (s:=h) (s.n) (bcells xs) Tryz.underlying22 Tryz.Zcm.h rfl rfl rfl (fun w d=>a _ w (d.Qs (Pick.Qs (P:=R)))) (by first|rfl|exact Qw _) (⟨Qb,Qb⟩) rfl ?_);intro u j;rw[Gf];refine ZY 3 ?_;exact Zf ef Zq (⟨u,rfl,Qb,rfl⟩)
theorem Qx8(l:List Nat):Ee (Yp l)=true:=Kn.2 fun v a=>by
 obtain⟨x,_,rfl⟩:=Qq.1 a;rfl
theorem Q23(s:SV)(l:List Nat)(h:l.length≤1000000)(i:s.n=l.length):Spec Tryz.prog 68 [s.v] [own s 31 1 (Yp l)] fun Γ v c=>∃u:SV,v=u.v∧u.n=l.length∧c=own u 31 1 (Yp l)::own s 31 1 (Yp l)::Γ:=by
 refine Zbd Tryz.func68 rfl Tryz.ntmps68 fun w0 Γ=>Zsh ?_;refine S.Qm7 s fun a=>(ZY 8 (ZY 2 ?_))
 refine Zi ef (fun b=>?_) (fun b=>?_)
 ·obtain rfl:l=[]:=Ae (by have:=a b;omega);refine ZY 5 ?_;refine S.Qs (show Ent _ (own SV.nil 31 1 (Yp [])::_) from Ent.Xb 31 1) ?_;exact Zf ef Zq (⟨SV.nil,rfl,rfl,rfl⟩)
 ·refine ZY 3 (Zp (S.Ev Tryz.underlying53 Tryz.H9.h rfl ?_));intro f e;refine Zy ?_;refine Zp (S.Z6 (s:=f) (s.n) (Yp l) Tryz.underlying53 Tryz.H9.h rfl rfl rfl (fun w d=>Uo.Tq inferInstance d) (Qx8 l) (⟨Qb,Qb⟩) rfl ?_);intro u g;rw[Gf];refine ZY 3 ?_;exact Zf ef Zq (⟨u,rfl,Qb,rfl⟩)
theorem Q19(b:Nat)(st:Br)(ps:Nat→Nat):Spec Tryz.prog 34 [pt b] [BP b st ps] fun Γ v c=>∃u:SV,v=u.v∧u.n=st.members.length∧c=own u 31 1 (Yp st.members)::BP b st ps::Γ:=by
 refine Spec.J3 fun a=>?_;have i:=a.mem;refine Zbd Tryz.func34 rfl Tryz.ntmps34 fun w0 Γ=>Zsh ?_;refine S.W5 b st ps fun e jb f ov g j mv sb l d=>(ZY 8 (ZY 2 (ZF ef (ZY 7 (Zp (Zc1 Ze (Q23 mv st.members Qb d.mn) ?_))))));rintro v c ⟨u,rfl,h,rfl⟩;refine ZY 3 (S.Yk b st ps e jb f ov g j mv sb l d ?_);exact Zf ef Zq (⟨u,rfl,h,rfl⟩)
abbrev jbC(x:Bj):List Value:=[.int .u32 (x.id:Int),.int .u8 (x.tier:Int),.int .i64 (x.k:Int),.int .i64 (x.w:Int),.int .u8 (x.state:Int),.int .i64 (x.Qg:Int)]
abbrev jbZ:List Value:=[.int .u32 0,.int .u8 0,.int .i64 0,.int .i64 0,.int .u8 0,.int .i64 0]
def Zlo(o:Option Bj):Value:=match o with
 | some x=>.tuple #[.agg (jbC x).toArray,.bool true]
 | none=>.tuple #[.agg jbZ.toArray,.bool false]
theorem Znu(b:Nat)(st:Br)(ps:Nat→Nat)(id:Nat):Spec Tryz.prog 21 [pt b,.int .u32 (id:Int)] [BP b st ps] fun Γ v k=>v=Zlo (Qk st.js id)∧k=BP b st ps::Γ:=by
 refine Spec.J3 fun a=>?_;refine Spec.Ht Tryz.func21 rfl Tryz.ntmps21 rfl ?_;intro w0 Γ;show S _ w0 [(0,pt b),(1,.int .u32 (id:Int))] (BP b st ps::Γ) _;cases c:Qk st.js id with
 | none=>
  refine S.W5 b st ps fun e jb f ov g h mv sb l d=>?_;refine ZS (ZY 2 (Zp (S.alloc Tryz.z35.h rfl ?_)));intro r;refine ZY 8 (ZY 5 ?_);refine Zvg ef ef ef (Qx (.pointer none) Tryz.underlying82 Tryz.underlying31 Tryz.Jv.h rfl rfl rfl (by rw[Un a.Y4 d.perm,c];rfl)) (ZY 3 (ZT ef (ZY 2 ?_)));refine Zv (Ye (pvs:=[]) [_,_,_,_,_,_] Tryz.z35.h Tryz.p35.h trivial rfl) (Zp (Zs ef ef (cs':=[_,_,_,_,_,_]) ef (ZY 3 (S.Yk b st ps e jb f ov g h mv sb l d ?_))));exact Zf ef Zq (⟨rfl,rfl⟩)
 | some x=>
 obtain⟨_,u⟩:=Qi c;subst u;have t:=a.at_ c;refine S.Uu b st ps x c fun e jb f ov g h mv sb l i s lb q rb m d o Yr n p=>?_;have j:Yh (x.id:Int) l=some (pt (ps x.id)):=by rw[Un a.Y4 d.perm,c];rfl
 refine ZS (ZY 2 (Zp (S.alloc Tryz.z35.h rfl ?_)));intro r;refine ZY 8 (ZY 5 ?_);refine Zvg ef ef ef (Qx (pt (ps x.id)) Tryz.underlying82 Tryz.underlying31 Tryz.Jv.h rfl rfl rfl (by rw[j];rfl)) (ZY 3 (ZF ef (ZY 8 ?_)));refine Zv (Qx (pt (ps x.id)) Tryz.underlying82 Tryz.underlying31 Tryz.Jv.h rfl rfl rfl (by rw[j];rfl)) (ZY 3 (Zp (Zs ef ef (cs':=[_,_,_,_,_,_]) ef (ZY 3 (S.Q0 b st ps e jb f ov g h mv sb l i x s lb q rb m o rfl (Yr x rfl) (d.set t) p ?_)))));rw[Z4 a c];exact Zf ef Zq (⟨rfl,rfl⟩)
theorem Zba{l:List Nat}{n i:Nat}(h:l[i]?=some n)(c:∀y∈l.take i,y≠n):Kp l n=some i:=by
 unfold Kp;obtain⟨a,b⟩:=Yz.1 h;refine List.findIdx?_eq_some_iff_getElem.2 ⟨a,Zh b,fun j d=>?_⟩;have:l[j]∈l.take i:=Q9e.2 ⟨j,Qb,rfl⟩
 simpa using c _ this
abbrev svT(s:Sv)(Yl n:Nat)(a:List Int):Sv:={s with bs:=s.bs.set Yl a,have_:=Xm s.have_ n}
theorem Qbv{st:Br}{x:Bj}{n:Nat}{t:Nt}{blob:List Int}{s:Sv}{Yl:Nat}(a:x.Xg=some s)(b:Kp x.at_ n=some Yl)(h:s.told=true∨t.ver≠s.ver∨t.Yl≠Yl):Ky st x n t blob=st:=by
 unfold Ky;rw[a];dsimp only;rw[b];exact Qh h
theorem Qpr{st:Br}{x:Bj}{n:Nat}{t:Nt}{blob:List Int}{s:Sv}{Yl:Nat}(a:x.Xg=some s)(b:Kp x.at_ n=some Yl)(h:¬(s.told=true∨t.ver≠s.ver∨t.Yl≠Yl))(c:¬(Xm s.have_ n).length=x.at_.length):Ky st x n t blob=st.set {x with Xg:=some (svT s Yl n blob)}:=by
 unfold Ky;rw[a];dsimp only;rw[b];dsimp only;rw[Qe h,Qe c]
theorem Qps{st:Br}{x:Bj}{n:Nat}{t:Nt}{blob:List Int}{s:Sv}{Yl:Nat}(a:x.Xg=some s)(b:Kp x.at_ n=some Yl)(h:¬(s.told=true∨t.ver≠s.ver∨t.Yl≠Yl))(c:(Xm s.have_ n).length=x.at_.length):Ky st x n t blob={st with js:=Xe st.js {x with Xg:=some ⟨s.ver,s.Qg,Xm s.have_ n,true,s.bs.set Yl blob⟩},Qf:=st.Qf++[⟨x.id,s.ver,s.Qg,s.bs.set Yl blob⟩]}:=by
 unfold Ky;rw[a];dsimp only;rw[b];dsimp only;rw[Qe h,Qh c]
section
variable {n:Nat}{md:Bool}{w0:WM md}{ρ:Env}{Γ Δ:List Assn}{φ:Act→World→Prop}
theorem S.Q1t(v:SV)(bs:List (List Int))[q:Pick (blobs v bs) Γ Δ](k:∀os:List Bb,os.map (·.2)=bs→S n w0 ρ (own v 22 1 (os.map bbV)::alls os bbB::Δ) φ):S n w0 ρ Γ φ:=by
 intro a w h g f;obtain⟨h0,e,j,i,d,c,b,⟨os,q1,q2⟩,s⟩:=g.Qs q.Qs;exact k os q1 a w h ⟨h0,e,(Ent.unpack [_,_] Δ) _ ⟨j,i,d,c,b,q2,s⟩⟩ f
theorem Ent.Q97(v:SV)(os:List Bb)(Γ:List Assn):Ent (own v 22 1 (os.map bbV)::alls os bbB::Γ) (blobs v (os.map (·.2))::Γ):=
 (Ent.pack [_,_] Γ).trans (Ent.Kg Γ fun _ s=>⟨os,rfl,s⟩)
theorem S.L1(v:SV)(l:List Im)[q:Pick (imgs v l) Γ Δ](k:∀os:List Ig,os.map (·.2)=l→S n w0 ρ (own v 60 4 (os.flatMap igC)::alls os igB::Δ) φ):S n w0 ρ Γ φ:=by
 intro a w h g f;obtain⟨h0,e,j,i,d,c,b,⟨os,q1,q2⟩,s⟩:=g.Qs q.Qs;exact k os q1 a w h ⟨h0,e,(Ent.unpack [_,_] Δ) _ ⟨j,i,d,c,b,q2,s⟩⟩ f
theorem Ent.Ql6(v:SV)(os:List Ig)(Γ:List Assn):Ent (own v 60 4 (os.flatMap igC)::alls os igB::Γ) (imgs v (os.map (·.2))::Γ):=
 (Ent.pack [_,_] Γ).trans (Ent.Kg Γ fun _ s=>⟨os,rfl,s⟩)
end
theorem Ent.Qoa{a:Type}(F:a→Assn){os:List a}{i:Nat}{x x':a}(b:os[i]?=some x)(Γ:List Assn):Ent (F x'::alls os F::Γ) (alls (os.set i x') F::Γ):=
 ((Ent.U5 F b Γ).cons (F x')).trans (((Ent.drop (F x) _).cons (F x')).trans (Ent.Xo F b Γ))
theorem Yu.iset{st:Br}(h:Yu st)(l:List Im):Yu {st with Qf:=l}:=⟨h.R,h.N,h.Fu,h.Y4,fun x a=>h.Qu x a,h.Dk,h.q1,h.q2,h.g1,h.g2,h.now,h.fin,h.mem,h.C4⟩
theorem JOk.sset{N:Nat}{x:Bj}(h:JOk N x){s:Sv}(c:s.bs.length=x.at_.length)(b:s.Qg≤x.w):JOk N {x with Xg:=some s}:=⟨h.P3,h.Rx,h.tier,h.k1,h.kn,h.w,h.cr,h.wk,h.Uy,h.at_,h.drop,h.lod,h.X4,h.ld,fun s a=>(by cases a;exact⟨c,b⟩)⟩
theorem Qz0{l:List Nat}{n:Nat}(h:n∈l):∃i,Kp l n=some i∧l[i]?=some n:=by
 cases a:Kp l n with
 | none=>exact absurd (List.findIdx?_eq_none_iff.1 a n h) Q2
 | some i=>
  obtain⟨b,c,_⟩:=List.findIdx?_eq_some_iff_getElem.1 a;exact⟨i,rfl,by rw[Ju b,U4 c]⟩
theorem Zax(b:Nat)(st:Br)(ps:Nat→Nat)(x:Bj)(n:Nat)(t:Nt)(R:Assn)(K:SV)(blob:List Int)(L:Qk st.js x.id=some x)(hn:n∈x.at_)(a3:K.n=blob.length)(a4:blob.length≤1000000)(hR:RdS R K K.n 1 (bcells blob))(ao:st.Qf.length≤900000)(ah:t.Yl≤255) :
  Spec Tryz.prog 67 [pt b,pt (ps x.id),.int .i64 (n:Int),.agg (ntC t K).toArray] [BP b st ps,R] fun Γ _ N=>N=BP b (Ky st x n t blob) ps::R::Γ:=by
 refine Spec.J3 fun j=>?_;have F:=j.at_ L;have hN:=j.Ra;have aq:=F.len;obtain⟨Yl,p,Y⟩:=Qz0 hn;refine Spec.Ht Tryz.func67 rfl Tryz.ntmps67 rfl ?_;intro w0 Γ;show S _ w0 [(0,pt b),(1,pt (ps x.id)),(2,.int .i64 (n:Int)),(3,.agg (ntC t K).toArray)] (BP b st ps::R::Γ) _;refine S.Uu b st ps x L fun G jb H ov I J mv sb l i m lb E rb V C M Yr ae d=>?_;cases g:x.Xg with
 | none=>
  have B:Ky st x n t blob=st:=by rw[Ky,g]
  have a0:V=none:=by have:=d.s;rw[g]at this;cases V with|none=>rfl|some q=>cases this
  subst a0;refine ZS (ZY 2 (Zp (S.box (cs:=[_,_,_,_,_,_,_,_,_,_,_,_,_]) rfl rfl rfl ?_)));intro b7;refine ZY 8 (ZY 8 (Zp (Zc1 Ze (Qof (own m 3 1 (nds x.at_)) m x.at_ n d.an RdS.own) ?_)));rintro v N ⟨⟨r,rfl,_,_⟩,rfl⟩;refine ZY 4 ?_;refine Zd ([]) [] [0,1,2] (ZY 3 ?_);refine Zr (Zra 3 22) (ZY 8 (ZY 8 (ZY 6 ?_)));refine ZD (ZY 2 (S.Q0 b st ps G jb H ov I J mv sb l i x m lb E rb none M rfl (Yr x rfl) (C.set F) d ?_));rw[Z4 j L];exact Zf ef Zq (by rw[B])
 | some s=>
  obtain⟨q,hq⟩:∃q,V=some q:=by have:=d.s;rw[g]at this;cases V with|none=>cases this|some q=>exact⟨q,rfl⟩
  subst hq;have P:=(F.svl s g).1;have a8:∀(y:Sv),s.told=false→({s with bs:=s.bs.set Yl blob,have_:=Xm s.have_ n}:Sv)=⟨s.ver,s.Qg,Xm s.have_ n,false,s.bs.set Yl blob⟩:=fun _ h=>by rw[←h]
  refine S.conv (Jw (some q) x.id x.Xg) (show Ent _ (Jw (some q) x.id (some s)::_) by rw[g];exact Ent.refl _) ?_;refine S.Qmk q x.id s fun D sv=>?_;refine S.Qhn D fun aa=>?_;have Ec:=Qf6 aa;have af:Yl<x.at_.length:=(Yz.1 Y).1;refine ZS (ZY 2 (Zp (S.box (cs:=[_,_,_,_,_,_,_,_,_,_,_,_,_]) rfl rfl rfl ?_)));intro b7;refine ZY 8 (ZY 8 (Zp (Zc1 Ze (Qof (own m 3 1 (nds x.at_)) m x.at_ n d.an RdS.own) ?_)));rintro v N ⟨⟨r,rfl,Z,P4⟩,rfl⟩
  obtain rfl:r=some Yl:=by
   cases r with
   | none=>exact absurd rfl (Z rfl n hn)
   | some i9=>
    obtain⟨z,X,ad,W⟩:=P4 i9 rfl;obtain rfl:z=n:=Qb
    have:=Zba X fun y hy e=>W y hy (by rw[e]);rw[p]at this;exact this.symm
  rw[show oI (some Yl)=(Yl:Int) from rfl];refine ZY 4 ?_;refine Zd ([blk b7 72 (ntC t K).toArray,blk q 131 #[.int .u32 (x.id:Int),.int .u32 (s.ver:Int),.int .i64 (s.Qg:Int),sv.v,.map (some D),.bool s.told]]) [] [0,1,2] (ZY 3 ?_);refine Zr (Zra 3 6) (ZY 6 ?_)
  refine Zbb 28 ef (fun a=>?_) (fun a=>?_)
  ·have B:=Qbv (st:=st) (n:=n) (t:=t) (blob:=blob) g p (.inl a);refine Zr (Zra 9 16) (ZY 8 (ZY 8 ?_));refine ZD (ZY 2 (S.Dq q D sv x.id s ?_));refine S.conv (Jw (some q) x.id (some s)) (show Ent _ (Jw (some q) x.id x.Xg::_) by rw[g];exact Ent.refl _) (S.Q0 b st ps G jb H ov I J mv sb l i x m lb E rb (some q) M rfl (Yr x rfl) (C.set F) d ?_);rw[Z4 j L];exact Zf ef Zq (by rw[B])
  ·refine Zr (Zra 9 10) (ZY 8 (ZY 2 ?_))
   refine Zb 38 ef (fun k=>?_) (fun k=>?_)
   ·have B:=Qbv (st:=st) (n:=n) (t:=t) (blob:=blob) g p (.inr (.inl Qb));refine Zr (Zra 19 6) (ZY 6 ?_);refine ZD (ZY 2 (S.Dq q D sv x.id s ?_));refine S.conv (Jw (some q) x.id (some s)) (show Ent _ (Jw (some q) x.id x.Xg::_) by rw[g];exact Ent.refl _) (S.Q0 b st ps G jb H ov I J mv sb l i x m lb E rb (some q) M rfl (Yr x rfl) (C.set F) d ?_);rw[Z4 j L];exact Zf ef Zq (by rw[B])
   ·refine Zr (Zra 19 6) (ZY 2 ?_);refine Zwg ef ef ef ef (Vu Tryz.it3.h (by rw[Tryz.underlying5];rfl) rfl (Xy Qb Qb)) (ZY 3 ?_);refine ZD ?_
    refine Zj ef (fun h1=>?_) (fun h1=>?_)
    ·have B:=Qbv (st:=st) (n:=n) (t:=t) (blob:=blob) g p (.inr (.inr Qb));refine Zy (S.Dq q D sv x.id s ?_);refine S.conv (Jw (some q) x.id (some s)) (show Ent _ (Jw (some q) x.id x.Xg::_) by rw[g];exact Ent.refl _) (S.Q0 b st ps G jb H ov I J mv sb l i x m lb E rb (some q) M rfl (Yr x rfl) (C.set F) d ?_);rw[Z4 j L];exact Zf ef Zq (by rw[B])
    ·have U:¬(s.told=true∨t.ver≠s.ver∨t.Yl≠Yl):=by
      rintro (h|h|h)
      ·rw[a]at h;cases h
      ·exact k Qb
      ·exact h1 Qb
     refine S.conv (if s.told then (fun _=>True) else blobs sv s.bs) (show Ent _ (blobs sv s.bs::_) by rw[a];exact Ent.refl _) ?_;refine S.Q1t sv s.bs fun os Q=>?_;have ai:os.length=s.bs.length:=by rw[←Q,Qo]
     refine S.Xn sv fun a2 Bt aj=>?_;rw[Qo]at a2;refine S.Q7 sv Qb fun vb vo O _ _ _=>?_;obtain⟨o9,a1⟩:=Xs (show Yl<os.length by omega);refine ZY 2 ?_;refine Zd ([blk b7 72 (ntC t K).toArray,blk q 131 #[.int .u32 (x.id:Int),.int .u32 (s.ver:Int),.int .i64 (s.Qg:Int),sv.v,.map (some D),.bool false]]) [10] (Zra 0 8) (ZY 8 ?_);refine Z1 (i:=8) ef ef ?_;refine  (Zc1 Ze (Q8e R K blob a3 hR a4) ?_);rintro v N ⟨u,rfl,hu,rfl⟩;refine Zk [9] ?_;refine Zw ef (Zx (Yl) ef (O) ef Qb) ?_;refine Z1 (i:=10) ef ef ?_;refine(S.Xa (sv) (Yl) Eo.h rfl rfl rfl O (by first|rfl|exact Xr _ _ _|omega) (by rw[Qo];omega) ((by rw[Qdd]:_=(os.set Yl ((u,blob):Bb)).map bbV)) ?_);refine ZL ([]) [] ?_;refine ZD (ZY 7 (Zp (Zc1 Ze (Qr0 D s.have_ n) ?_)));rintro v N rfl;refine S.U2 (own u 5 1 (bcells blob)) (alls os bbB) (Ent.Qoa bbB (x':=(u,blob)) a1 _) ?_;obtain⟨o,A5⟩:∃o:List Bb,o=os.set Yl (u,blob):=⟨_,rfl⟩;rw[←A5];have a9:o.map (·.2)=s.bs.set Yl blob:=by rw[A5,←Q,Qdd]
     refine S.U2 (own sv 22 1 (o.map bbV)) (alls o bbB) (Ent.Q97 sv o _) ?_;rw[a9];refine ZY 2 ?_;refine Zd0 (Zra 0 11) (ZY 8 (ZY 3 ?_));refine ZD ?_
     refine Zj ef (fun h2=>?_) (fun h2=>?_)
     ·have a6:(Xm s.have_ n).length=x.at_.length:=by have:=Al (Xm s.have_ n);have:=d.an;omega
      have B:=Qps (st:=st) (t:=t) (blob:=blob) g p U a6;obtain⟨f,c⟩:∃f:Bj,f={x with Xg:=some ⟨s.ver,s.Qg,Xm s.have_ n,true,s.bs.set Yl blob⟩}:=⟨_,rfl⟩;have Nv:JOk st.nodes f:=by rw[c];exact F.sset (by rw[Xf];exact P) (F.svl s g).2
      have A:f.id=x.id:=by rw[c]
      obtain⟨im,al⟩:∃im:Im,im=⟨x.id,s.ver,s.Qg,s.bs.set Yl blob⟩:=⟨_,rfl⟩;refine S.L1 I st.Qf fun io T=>?_;have ab:io.length=st.Qf.length:=by rw[←T,Qo]
      have ak:=C.im;refine ZY 7 ?_;refine Zd ([blk q 131 #[.int .u32 (x.id:Int),.int .u32 (s.ver:Int),.int .i64 (s.Qg:Int),sv.v,.map (some D),.bool true],blk b 84 (bC st G jb H ov I J mv sb).toArray]) [13] (Zra 0 9) (ZY 8 (Zy ?_));refine Z1 (i:=9) ef ef ?_;refine(S.buildSlice (pvs:=[(_,_)]) [_,_,_,_] Tryz.underlying51 Tryz.Qqz.h rfl rfl ⟨⟨rfl,rfl⟩,trivial⟩ rfl rfl ?_);intro a5;refine Zk [] ?_;refine Z1 (i:=10) ef ef ?_;refine(S.Z6 (s:=I) (1) (igC ((sv,⟨x.id,s.ver,s.Qg,s.bs.set Yl blob⟩):Ig)) Tryz.underlying51 Tryz.Qqz.h rfl rfl rfl (Yb (b:=a5) rfl (by unfold maxLen;omega)) (by first|rfl|exact Qw _) (⟨Qb,Qb⟩) rfl ?_);intro w ar;refine Zk [11,12] (ZY 2 ?_);refine Z1 (i:=13) ef ef ?_;refine(S.store (cs':=[_,_,_,_,_,_,_,_,_,_,_,_,_,_,_,_,_,_]) Eo.h rfl rfl rfl rfl rfl ?_);refine ZL ([]) [] ?_;refine ZD ?_;refine S.U2 (igB ((sv,⟨x.id,s.ver,s.Qg,s.bs.set Yl blob⟩):Ig)) (alls io igB) (Ent.Ew igB io ((sv,⟨x.id,s.ver,s.Qg,s.bs.set Yl blob⟩):Ig) _) ?_;rw[Wv igC io ((sv,⟨x.id,s.ver,s.Qg,s.bs.set Yl blob⟩):Ig)];refine S.U2 (own w 60 4 ((io++[((sv,⟨x.id,s.ver,s.Qg,s.bs.set Yl blob⟩):Ig)]).flatMap igC)) (alls (io++[((sv,⟨x.id,s.ver,s.Qg,s.bs.set Yl blob⟩):Ig)]) igB) (Ent.Ql6 w _ _) ?_;rw[Vc,T,Z7,Qzb];refine S.Qmj q D sv x.id s.ver s.Qg (Xm s.have_ n) (s.bs.set Yl blob) (S.X7 (ps x.id) (bjC f m lb E rb (some q)).toArray (by rw[c]) ?_);refine S.sub (jX (ps x.id) f m lb E rb (some q) (bR b {st with Qf:=st.Qf++[⟨x.id,s.ver,s.Qg,s.bs.set Yl blob⟩]} ps G jb H ov w J mv sb l i (R::Γ))) (e:=by subst c;infer_instance) ?_;refine S.Q0 b {st with Qf:=st.Qf++[⟨x.id,s.ver,s.Qg,s.bs.set Yl blob⟩]} ps G jb H ov w J mv sb l i f m lb E rb (some q) M A (Yr f A) (BF.set (st:={st with Qf:=st.Qf++[⟨x.id,s.ver,s.Qg,s.bs.set Yl blob⟩]}) ⟨j.iset _,C.perm,C.on,by show w.n=(st.Qf++[_]).length;rw[Yd,Y0];omega,C.dn,C.mn,C.sn⟩ Nv) ⟨by rw[c];exact d.an,by rw[c];exact d.l,by rw[c];exact d.d,by rw[c];exact d.r,by rw[c];rfl⟩ ?_;rw[c];exact Zfn ef Zq (by rw[B])
     ·have a7:¬(Xm s.have_ n).length=x.at_.length:=by have:=Al (Xm s.have_ n);have:=d.an;omega
      have B:=Qpr (st:=st) (t:=t) (blob:=blob) g p U a7;obtain⟨f,c⟩:∃f:Bj,f={x with Xg:=some (svT s Yl n blob)}:=⟨_,rfl⟩;have Nv:JOk st.nodes f:=by rw[c];exact F.sset (by rw[Xf];exact P) (F.svl s g).2
      have A:f.id=x.id:=by rw[c]
      refine Zy (S.Qf8 q D sv x.id s.ver s.Qg (Xm s.have_ n) (s.bs.set Yl blob) (S.X7 (ps x.id) (bjC f m lb E rb (some q)).toArray (by rw[c]) ?_));refine S.sub (jX (ps x.id) f m lb E rb (some q) (bR b st ps G jb H ov I J mv sb l i (R::Γ))) (e:=by rw[c];show Sub (jX _ {x with Xg:=some {s with bs:=s.bs.set Yl blob,have_:=Xm s.have_ n}} _ _ _ _ _ _) _;rw[a8 s a];infer_instance) ?_;refine S.Q0 b st ps G jb H ov I J mv sb l i f m lb E rb (some q) M A (Yr f A) (C.set Nv) ⟨by rw[c];exact d.an,by rw[c];exact d.l,by rw[c];exact d.d,by rw[c];exact d.r,by rw[c];rfl⟩ ?_;rw[c];exact Zfn ef Zq (by rw[B])
theorem Za1{rs:List Ro}{id:Nat}(h:Yt id (rs.map roR)=none):Yh (id:Int) (rs.map roE)=none:=by
 induction rs with
 | nil=>rfl
 | cons o rs a=>
  simp only[Z7,Yt]at h
  split at h
  ·cases h
  ·rename_i e;simp only[Z7,Yh];rw[Qe Qb];exact a h
theorem Tw{rs:List Ro}{id:Nat}{r:Rk}(h:Yt id (rs.map roR)=some r):∃(i:Nat) (p:Nat),rs[i]?=some (id,r,p)∧Yh (id:Int) (rs.map roE)=some (pt p) ∧
  (∀b,Wl id b (rs.map roR)=(rs.set i (id,b,p)).map roR)∧(∀b,(rs.set i (id,b,p)).map roE=rs.map roE)∧(∀b c,Xl (id:Int) (pt c) (rs.map roE)=(rs.set i (id,b,c)).map roE)∧(∀b c,Wl id b (rs.map roR)=(rs.set i (id,b,c)).map roR) ∧
  Ge (id:Int) (rs.map roE)=(rs.eraseIdx i).map roE∧Fe id (rs.map roR)=(rs.eraseIdx i).map roR:=by
 induction rs with
 | nil=>cases h
 | cons o rs f=>
  obtain⟨a,q,p⟩:=o;simp only[Z7,Yt]at h
  split at h
  ·rename_i e;have e:a=id:=e;cases h;subst e
   refine⟨0,p,rfl,?_,fun b=>?_,fun b=>rfl,fun b c=>?_,fun b c=>?_,?_,?_⟩
   ·simp only[Z7,Yh,C0]
   ·simp only[Z7,Wl,C0,Qlw]
   ·simp only[Z7,Xl,C0,Qlw]
   ·simp only[Z7,Wl,C0,Qlw]
   ·simp only[Z7,Ge,C0,Qv5]
   ·simp only[Z7,Fe,C0,Qv5]
  ·rename_i e;have e:a≠id:=e;have e2:(id:Int)≠(a:Int):=Qb
   obtain⟨i,d,t,s,n,m,l,k,j,g⟩:=f h
   refine⟨i+1,d,t,?_,fun b=>?_,fun b=>?_,fun b c=>?_,fun b c=>?_,?_,?_⟩
   ·simp only[Z7,Yh];rw[Qe Qb];exact s
   ·simp only[Z7,Wl,Qiw];rw[Qe e,n]
   ·simp only[Z7,Qiw];rw[m]
   ·simp only[Z7,Xl,Qiw];rw[Qe Qb,l]
   ·simp only[Z7,Wl,Qiw];rw[Qe e,k]
   ·simp only[Z7,Ge,Qv4];rw[Qe Qb,j]
   ·simp only[Z7,Fe,Qv4];rw[Qe e,g]
theorem Zg2{rs:List Ro}{id:Nat}(h:Yt id (rs.map roR)=none)(r:Rk)(p:Nat):Xl (id:Int) (pt p) (rs.map roE)=(rs++[(id,r,p)]).map roE∧Wl id r (rs.map roR)=(rs++[(id,r,p)]).map roR∧Ge (id:Int) (rs.map roE)=rs.map roE∧Fe id (rs.map roR)=rs.map roR:=by
 induction rs with
 | nil=>exact⟨rfl,rfl,rfl,rfl⟩
 | cons o rs b=>
  obtain⟨a,q,i⟩:=o;simp only[Z7,Yt]at h
  split at h
  ·cases h
  ·rename_i e;have e:a≠id:=e;obtain⟨g,f,d,c⟩:=b h
   refine⟨?_,?_,?_,?_⟩
   ·simp only[Z7,Xl,Nx];rw[Qe Qb,g]
   ·simp only[Z7,Wl,Nx];rw[Qe e,f]
   ·simp only[Z7,Ge];rw[Qe Qb,d]
   ·simp only[Z7,Fe];rw[Qe e,c]
theorem Q3r{rs:Rs}(j:amB rs=true){y:Nat×Rk}(f:y∈rs)(g:y.2.run=true):Ya rs=y.1:=by
 have i:(rs.filter (·.2.run)).length≤1:=U4 j;have c:y∈rs.filter (·.2.run):=Y5.2 ⟨f,g⟩;unfold Ya;cases d:rs.find? (·.2.run) with
 | none=>exact absurd g (by simpa using List.find?_eq_none.1 d y f)
 | some z=>
  have e:z∈rs.filter (·.2.run):=Y5.2 ⟨List.mem_of_find?_eq_some d,by have k:=List.find?_some d;exact k⟩;cases h:rs.filter (·.2.run) with
  | nil=>rw[h]at c;cases c
  | cons a l=>
   rw[h]at i c e;cases l with
   | nil=>rw[Vd.1 c,Vd.1 e]
   | cons b l=>simp at i
theorem Q3q{rs:Rs}(h:∀y∈rs,y.2.run=false):Ya rs=0:=by
 unfold Ya;rw[List.find?_eq_none.2 fun y a=>by rw[h y a];decide]
theorem Ent.Qmq{rs:List Ro}{i:Nat}{o:Ro}(h:rs[i]?=some o)(a:List Assn):Ent (alls rs roB::a) (roB o::alls (rs.take i) roB::alls (rs.drop (i+1)) roB::a):=Ent.U5 roB h a
theorem Zbq{rs js:List Ro}{i:Nat}{o:Ro}(h:js[i]?=some o)(a:∀x∈js,x∈rs):∃k:Nat,rs[k]?=some o:=by
 obtain⟨k,b,e⟩:=Pq (a o (Yn h));exact⟨k,by rw[Ju b,e]⟩
set_option maxHeartbeats 1000000 in
theorem Qmo{p:Nat}{nd:Nd}{rb:Nat}{o ov:SV}{rs:List Ro}{os:List Ot}(I:NF nd o ov rs os)(D:amB nd.rk=true):Spec Tryz.prog 59 [pt p] (ndX p nd rb o ov rs os []) fun A v K=>v=.int .u32 (Ya nd.rk:Nat)∧K=ndX p nd rb o ov rs os A:=by
 refine Zbd Tryz.func59 rfl Tryz.ntmps59 fun M A=>Zsh (ZY 8 (ZY 3 (Zp (S.range Tryz.underlying104 rfl rfl ?_))));intro u;refine ZY 2 ?_;refine Zl (fun k l n=>∃(left:List (Int×Value)) (g:Option (Int×Value)) (jl:List Ro),k=left.length∧left=jl.map roE∧(∀x∈jl,x∈rs)∧(∀x∈rs,x∈jl∨x.2.1.run=false)∧l=[(0,pt p),(9,.pointer (some ⟨u,0,none⟩))] ∧   n=G3 u rb .u32 (rs.map roE) left g::blk p 107 #[.bool nd.up,.map (some rb),o.v,ov.v,.bool nd.Qj]::alls rs roB::own o 72 13 (nd.Yy.flatMap niC)::own ov 72 13 (os.flatMap otC)::alls os otB::A) (m:=_) (⟨rs.map roE,none,rs,rfl,rfl,fun x b=>b,fun x b=>.inl b,rfl,rfl⟩) ?_;rintro k l n ⟨left,g,jl,L,z,t,d,rfl,rfl⟩;refine ZY 2 ?_
 refine Zp (S.Xh rfl rfl (fun F=>?_) (fun a B v10 c=>?_))
 ·have f:Ya nd.rk=0:=Q3q fun y i=>by
   rw[←I.rk]at i;obtain⟨x,b,e⟩:=Qq.1 i;subst e
   rcases d x b with h|h
   ·rw[F]at z;rw[Fs.1 z.symm]at h;cases h
   ·exact h
  refine ZY 8 (ZY 2 (S.conv (G3 u rb .u32 (rs.map roE) left g) (Ent.G3 _) ?_));exact Zf ef Zq (⟨by rw[f];rfl,rfl⟩)
 ·obtain⟨x,b,r⟩:∃x,jl[a]?=some x∧roE x=(B,v10):=by
   rw[z,Q8]at c;exact Df.1 c
  simp only[roE,Hx]at r;obtain⟨rfl,rfl⟩:=r;obtain⟨q,w⟩:=Zbq b t
  have s:(left.eraseIdx a).length<k:=by
   rw[L,Q9d (by have:=(Yz.1 c).1;exact this)];have:=(Yz.1 c).1;omega
  have C:(left.eraseIdx a)=(jl.eraseIdx a).map roE:=by rw[z,Vr]
  refine S.conv (alls rs roB) (Ent.Qmq w _) (ZY 8 (Zv (Cf rfl) (ZY 8 (ZY 4 ?_))))
  refine Zi ef (fun E=>?_) (fun E=>?_)
  ·have f:Ya nd.rk=x.1:=Q3r D (y:=roR x) (by rw[←I.rk];exact Qq.2 ⟨x,Yn w,rfl⟩) E;refine ZY 6 (S.X0 (roB x) (alls (rs.take q) roB) (alls (rs.drop (q+1)) roB) (Ent.Xk roB w _) (S.conv (G3 u rb .u32 (rs.map roE) (left.eraseIdx a) (some ((x.1:Int),pt x.2.2))) (Ent.G3 _) ?_));exact Zf ef Zq (⟨by rw[f];rfl,rfl⟩)
  ·have G:∀y∈rs,y∈jl.eraseIdx a∨y.2.1.run=false:=fun y i=>by
    rcases d y i with h|h
    ·by_cases e:y=x
     ·exact .inr (by rw[e];exact E)
     ·refine .inl ?_;obtain⟨j,H,J⟩:=Pq h;exact List.mem_eraseIdx_iff_getElem?.2 ⟨j,fun e9=>e (by subst e9;rw[Ju H,J]at b;exact Hb b),by rw[Ju H,J]⟩
    ·exact .inr h
   refine Zy (S.X0 (roB x) (alls (rs.take q) roB) (alls (rs.drop (q+1)) roB) (Ent.Xk roB w _) ?_);exact ZX ((left.eraseIdx a).length) (⟨left.eraseIdx a,some ((x.1:Int),pt x.2.2),jl.eraseIdx a,rfl,C,fun y i=>t y (Qjb i),G,rfl,rfl⟩) (s)
theorem Qb2(p:Nat)(nd:Nd)(c:amB nd.rk=true):Spec Tryz.prog 59 [pt p] [NI p nd] fun a v f=>v=.int .u32 (Ya nd.rk:Nat)∧f=NI p nd::a:=by
 intro a w k;obtain⟨h0,j,m,l,d,i,h,⟨rb,b,ov,rs,os,q1,q2⟩,s⟩:=k;refine(Qmo (rb:=rb) q1 c a w ⟨h0,j,(Ent.unpack (ndX p nd rb b ov rs os []) a) _ ⟨m,l,d,i,h,q2,s⟩⟩).mono ?_;rintro e n ⟨v,f,e1,⟨e2,e3⟩,g,e5⟩;refine⟨v,NI p nd::a,e1,⟨e2,rfl⟩,?_,e5⟩;rw[e3]at g;exact g.Qs ((Ent.pack (ndX p nd rb b ov rs os []) a).trans (Ent.Kg a fun _ s=>⟨rb,b,ov,rs,os,q1,s⟩))
theorem NF.rset{nd:Nd}{b ov:SV}{rs:List Ro}{os:List Ot}(h:NF nd b ov rs os){rk:Rs}{a:List Ro}(c:a.map roR=rk):NF {nd with rk:=rk} b ov a os:=⟨c,h.os,h.i,h.o⟩
theorem Q0j{now:Nat}{nd:Nd}(h:¬Ya nd.rk≠0):Yg now nd=nd:=by rw[Yg,Qe h]
theorem Qts{now:Nat}{nd:Nd}{r:Rk}(h:Ya nd.rk≠0)(a:Yt (Ya nd.rk) nd.rk=some r):Yg now nd={nd with rk:=Wl (Ya nd.rk) {r with Jz:=now,Kc:=if r.Kc=0 then now else r.Kc} nd.rk}:=by rw[Yg,Qh h,a]
theorem Ps{rs:Rs}(h:Ya rs≠0):∃r,Yt (Ya rs) rs=some r:=by
 obtain⟨r,b,_⟩:=Mw h;cases a:Yt (Ya rs) rs with
 | some r=>exact⟨r,rfl⟩
 | none=>exact absurd (Qq.2 ⟨_,b,rfl⟩) (Ea.1 a)
theorem Zb0(p:Nat)(nd:Nd)(now:Nat)(h:amB nd.rk=true):Spec Tryz.prog 96 [pt p,.int .u32 (now:Int)] [NI p nd] fun l _ t=>t=NI p (Yg now nd)::l:=by
 refine Zbd Tryz.func96 rfl Tryz.ntmps96 fun w l=>Zsh (ZY 3 (Zp (Zcp Ze (Qb2 p nd h) (ZY 7 ?_))))
 refine Zj ef (fun v=>?_) (fun v=>?_)
 ·obtain⟨b,g⟩:∃b,b=Ya nd.rk:=⟨_,rfl⟩;have s:Ya nd.rk≠0:=Qb
  obtain⟨r,f⟩:=Ps s;have d:=Qts (now:=now) s f;rw[←g]at f d ⊢;refine S.E7 p nd fun rb o ov rs os e=>?_;obtain⟨i,q,k1,u,n,m,_⟩:=Tw (rs:=rs) (id:=b) (r:=r) (by rw[e.rk];exact f);refine S.conv (alls rs roB) (Ent.Qmq k1 _) (ZY 7 ?_);refine Zv (Qx (pt q) Tryz.underlying104 Tryz.underlying31 Tryz.Qdr.h rfl rfl rfl (by rw[u];rfl)) (ZY 8 (ZY 8 (ZY 2 ?_)))
  refine Zj ef (fun k=>?_) (fun k=>?_)
  ·refine ZY 7 ?_;have j:(r.Kc:Int)=0:=k;obtain⟨a,c⟩:∃a:Rk,a={r with Jz:=now,Kc:=if r.Kc=0 then now else r.Kc}:=⟨_,rfl⟩;rw[←c]at d;refine S.X7 q (rkC a).toArray (by rw[c];simp only[rkC];rw[Qh Qb]) (S.X0 (roB ((b,a,q):Ro)) (alls (rs.take i) roB) (alls (rs.drop (i+1)) roB) (Ent.Xo roB (x':=(b,a,q)) k1 _) ?_);refine S.conv (Qz rb .u32 (rs.map roE)) (show Ent _ (Qz rb .u32 ((rs.set i (b,a,q)).map roE)::_) by rw[m a];exact Ent.refl _) (S.Yw p {nd with rk:=Wl b a nd.rk} rb o ov (rs.set i (b,a,q)) os (e.rset (by rw[←n,e.rk])) ?_);rw[←d];exact Zfn ef Zq (rfl)
  ·refine Zy ?_;have j:¬(r.Kc:Int)=0:=k;obtain⟨a,c⟩:∃a:Rk,a={r with Jz:=now,Kc:=if r.Kc=0 then now else r.Kc}:=⟨_,rfl⟩;rw[←c]at d;refine S.X7 q (rkC a).toArray (by rw[c];simp only[rkC];rw[Qe Qb]) (S.X0 (roB ((b,a,q):Ro)) (alls (rs.take i) roB) (alls (rs.drop (i+1)) roB) (Ent.Xo roB (x':=(b,a,q)) k1 _) ?_);refine S.conv (Qz rb .u32 (rs.map roE)) (show Ent _ (Qz rb .u32 ((rs.set i (b,a,q)).map roE)::_) by rw[m a];exact Ent.refl _) (S.Yw p {nd with rk:=Wl b a nd.rk} rb o ov (rs.set i (b,a,q)) os (e.rset (by rw[←n,e.rk])) ?_);rw[←d];exact Zfn ef Zq (rfl)
 ·refine Zy ?_;have d:=Q0j (now:=now) (show ¬Ya nd.rk≠0 by omega);refine S.conv (NI p nd) (show Ent _ (NI p (Yg now nd)::_) by rw[d];exact Ent.refl _) ?_;exact Zfn ef Zq (rfl)
end BN
end Go.Proofs.YtdackcibfkkniaaGreatDoor
