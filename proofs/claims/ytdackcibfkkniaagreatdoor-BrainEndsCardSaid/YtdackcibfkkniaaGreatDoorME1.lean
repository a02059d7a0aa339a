/- Texts put together. -/
import Derived.KernelRfl
import Derived.Test.YtdackcibfkkniaaGreatDoorProg
import Derived.Test.YtdackcibfkkniaaGreatDoorRows
import Derived.WalkKit
import Derived.ProofKit
import Derived.OpenShut
import Derived.SizedLaws
import Derived.Lib.Hide
import Derived.Handy
import Derived.WalkSmall
import Derived.Maps.AppendAt
import Derived.Deep.RegionHeld3
import Derived.Deep.RegionWith
import Derived.Deep.QuietTactic
import Derived.BigQuiet
import Derived.Deep.LoopGhost
import Derived.Deep.DeepCutAuto
import Derived.Deep.DeepMust
import Derived.Deep.RegionLaw
import Derived.WalkSpells
import Derived.Laws.Tables
import Derived.Great.BuildSlice
import Derived.OrdersHeld
import Derived.Deep.Slices
import Derived.Laws.BytesArg
import Derived.MapKept
import Derived.Test.YtdackcibfkkniaaGreatDoorTie
import Derived.Test.YtdackcibfkkniaaGreatDoorCards
import Derived.SevenTiedAt
import Derived.Lib.LaidTab
import Derived.LaidMore
import Derived.Maps.RangeRun
import Derived.Laws.Externs
import Derived.RangeFuncIn
import Derived.RangeFuncRecord
import Derived.RangeFuncLeaves
import Derived.RangeFuncSeq
import Derived.OwnWalkIn
set_option maxRecDepth 20000
set_option synthInstance.maxSize 9999
set_option synthInstance.maxHeartbeats 400000
namespace Go.Proofs
theorem Qb{p:Prop}(h:p:=by omega):p:=h
theorem Qp{p:Prop}(h:p:=by decide):p:=h
theorem Q2{p:Prop}(h:p:=by simp):p:=h
theorem Z8{c:Type _}{a b:c}(h:a=b:=by kernel_rfl):some a=some b:=congrArg some h
abbrev Q1:=@Nat.le_refl
abbrev Qwe:=@Array.getElem?_eq_some_iff
abbrev Qj2:=@Nat.zero_add
abbrev Up:=@Nat.le_trans
abbrev Q88:=@Nat.le_succ_of_le
abbrev Xq:=@Nat.zero_le
abbrev Qsf:=@List.getElem?_drop
abbrev Ae:=@List.eq_nil_of_length_eq_zero
abbrev Qh:=@if_pos
abbrev Km:=@Option.some.injEq
abbrev R6:=@and_true
abbrev B3:=@true_and
abbrev Zgj:=@Array.toList_setIfInBounds
abbrev Qe:=@if_neg
abbrev Q9g:=@Nat.add_sub_cancel_left
abbrev Qbl:=@Nat.add_zero
abbrev Yd:=@List.length_append
abbrev Qi7:=@Nat.add_mul
abbrev Qsk:=@Nat.eq_zero_or_pos
abbrev Qze:=@Array.size_append
abbrev Qzd:=@List.size_toArray
abbrev R5:=@Nat.mul_le_mul_right
abbrev Q9c:=@List.drop_zero
abbrev Wb:=@List.append_assoc
abbrev Q89:=@List.take_left
abbrev Gf:=@List.nil_append
abbrev V9:=@List.length_take
abbrev R4:=@List.length_drop
abbrev Mk:=@Array.length_toList
abbrev Qzc:=@List.drop_append_of_le_length
abbrev Qsj:=@List.drop_take
abbrev Z7:=@List.map_cons
abbrev Qzb:=@List.map_nil
abbrev Nz:=@Nat.lt_or_ge
abbrev Zny:=@Array.getElem?_eq_none
abbrev Qbk:=@Nat.eq_of_beq_eq_true
abbrev Zgi:=@Array.getElem?_setIfInBounds_ne
abbrev Qbj:=@Nat.le_of_ble_eq_true
abbrev Qza:=@Nat.sub_zero
abbrev Yz:=@List.getElem?_eq_some_iff
abbrev Qy9:=@Array.getElem?_append_left
abbrev U4:=@of_decide_eq_true
abbrev Qi2:=@of_decide_eq_false
abbrev Qsi:=@List.getElem?_cons_zero
abbrev Qy8:=@List.all_cons
abbrev Z5:=@Bool.and_eq_true
abbrev Qef:=@Option.isNone_iff_eq_none
abbrev U3:=@Option.map_some
abbrev Qsh:=@beq_iff_eq
abbrev Znx:=@Int.tdiv_eq_ediv_of_nonneg
abbrev B2:=@Option.isSome_iff_exists
abbrev Hx:=@Prod.mk.injEq
abbrev Kn:=@List.all_eq_true
abbrev Qbi:=@bne_iff_ne
abbrev Mj:=@ne_eq
abbrev Ka:=@List.length_cons
abbrev Mi:=@List.foldl_cons
abbrev Zgh:=@List.take_succ_eq_append_getElem
abbrev Qsg:=@List.set_append_right
abbrev Ny:=@Nat.min_eq_left
abbrev Qlw:=@List.set_cons_zero
abbrev Nx:=@List.cons_append
abbrev Hw:=@List.cons.injEq
abbrev Z3:=@congrArg
abbrev Xr:=@Nat.add_assoc
abbrev Ju:=@List.getElem?_eq_getElem
abbrev Qi1:=@Nat.lt_irrefl
abbrev Qee:=@Ne.symm
abbrev Q87:=@Array.setIfInBounds_comm
abbrev Qy7:=@Array.any_eq_true'
abbrev E2:=@Bool.or_eq_true
abbrev Qy6:=@List.contains_iff_mem
abbrev Qi0:=@Bool.not_eq_true'
abbrev C0:=@if_true
abbrev Vd:=@List.mem_singleton
abbrev Yf:=@List.mem_cons
abbrev Hp:=@List.not_mem_nil
abbrev Ho:=@or_false
abbrev Ztt:=@Array.getD_eq_getD_getElem?
abbrev Cz:=@Nat.succ_mul
abbrev Qlv:=@List.getElem?_append_left
abbrev Qbh:=@Nat.mod_eq_of_lt
abbrev Qlu:=@List.getElem?_append_right
abbrev Qy5:=@Nat.mod_eq_sub_mod
abbrev E1:=@List.ext_getElem?
abbrev Qiz:=@Nat.mod_lt
abbrev Pf:=@List.getElem?_eq_none
abbrev Q86:=@Nat.pos_of_ne_zero
abbrev Q85:=@Array.toArray_toList
abbrev R3:=@Array.getElem?_eq_getElem
abbrev Qiy:=@Nat.sub_self
abbrev Qix:=@Nat.zero_mul
abbrev Qlt:=@List.drop_eq_nil_of_le
abbrev Qls:=@List.drop_drop
abbrev G2:=@List.flatMap_cons
abbrev Qiw:=@List.set_cons_succ
abbrev Vc:=@List.map_append
abbrev Qlr:=@List.take_append_drop
abbrev R2:=@List.drop_eq_getElem_cons
abbrev Zgg:=@List.set_eq_take_append_cons_drop
abbrev Qo0:=@Nat.not_lt_zero
abbrev Pq:=@List.getElem_of_mem
abbrev Qq:=@List.mem_map
abbrev Qwd:=@Nat.div_eq_of_lt
abbrev Q8:=@List.getElem?_map
abbrev Qje:=@List.take_append
abbrev Dh:=@List.take_of_length_le
abbrev Qdq:=@List.eraseIdx_eq_take_drop_succ
abbrev Qdp:=@List.getElem?_modify
abbrev Ww:=@List.pairwise_map
abbrev Qdo:=@List.getElem?_set_ne
abbrev Pp:=@List.getElem?_set_self
abbrev Qwc:=@List.mem_map_of_mem
abbrev Qjd:=@List.nodup_append
abbrev Qjc:=@List.pairwise_append
abbrev Xu:=@List.mem_append
abbrev Qjb:=@List.mem_of_mem_eraseIdx
abbrev Tf:=@Option.getD_some
abbrev Qoz:=@Array.toList_modify
abbrev Dg:=@List.getElem?_of_mem
abbrev Yn:=@List.mem_of_getElem?
abbrev Hb:=@Option.some.inj
abbrev Jy:=@List.pairwise_iff_getElem
abbrev Qja:=@List.flatMap_append
abbrev Qoy:=@List.Perm.eq_of_pairwise
abbrev Qwb:=@List.perm_ext_iff_of_nodup
abbrev Qdn:=@Nat.ne_of_lt
abbrev Qwa:=@List.pairwise_lt_range
abbrev Y5:=@List.mem_filter
abbrev C3:=@List.mem_range
abbrev Qv9:=@BitVec.lt_of_getLsbD
abbrev Qdm:=@BitVec.eq_of_getLsbD_eq
abbrev Uw:=@List.length_filter_le
abbrev Ft:=@List.length_range
abbrev Qi9:=@Nat.le_of_lt
abbrev Z0:=@List.mem_cons_self
abbrev Ws:=@List.pairwise_cons
abbrev C2:=@BitVec.getLsbD_and
abbrev Te:=@BitVec.getLsbD_twoPow
abbrev Qdl:=@BitVec.getLsbD_not
abbrev Zz:=@decide_eq_true_eq
abbrev Qdk:=@BitVec.getLsbD_or
abbrev Q9f:=@BitVec.ofInt_natCast
abbrev Qox:=@List.filter_cons_of_pos
abbrev Ym:=@List.mem_cons_of_mem
abbrev Qow:=@List.filter_cons_of_neg
abbrev Qdj:=@List.pairwise_singleton
abbrev Qov:=@Bool.and_true
abbrev X3:=@List.append_nil
abbrev Td:=@if_false
abbrev Qou:=@Bool.false_and
abbrev Qot:=@Bool.false_eq_true
abbrev Qv8:=@Int.emod_nonneg
abbrev Qv7:=@BitVec.toNat_ushiftRight
abbrev Qv6:=@Nat.shiftRight_eq_div_pow
abbrev K0:=@Int.toNat_natCast
abbrev Gu:=@List.filter_append
abbrev Qo:=@List.length_map
abbrev Qdi:=@List.filter_congr
abbrev Qv5:=@List.eraseIdx_cons_zero
abbrev Np:=@List.filter_eq_self
abbrev Qv4:=@List.eraseIdx_cons_succ
abbrev Qi8:=@Array.toList_filter
abbrev Qv3:=@List.filter_filter
abbrev Fs:=@List.map_eq_nil_iff
abbrev Zh:=@decide_eq_true
abbrev Q6:=@decide_eq_false
abbrev Qv2:=@BitVec.toNat_and
abbrev Kz:=@Nat.mul_one
abbrev W7:=@Classical.byContradiction
abbrev Vz:=@List.nodup_cons
abbrev Qv1:=@List.perm_append_singleton
abbrev Kk:=@List.map_map
abbrev Wn:=@decide_eq_decide
abbrev Fq:=@List.getElem?_set
abbrev Qdh:=@List.replicate_succ
abbrev Po:=@Bool.and_assoc
abbrev X2:=@List.take_add_one
abbrev Qv0:=@Option.toList_some
abbrev Wh:=@List.take_length
abbrev Fp:=@getElem!_pos
abbrev Pn:=@Array.getElem?_toList
abbrev Qi6:=@List.getElem?_take_of_lt
abbrev Qdg:=@Array.getElem?_modify
abbrev Qos:=@Array.extract_size
abbrev Qvz:=@Array.size_mapIdx
abbrev Df:=@Option.map_eq_some_iff
abbrev Qor:=@List.Perm.append_left
abbrev Tc:=@Bool.and_false
abbrev Ha:=@List.foldl_append
abbrev Af:=@decide_eq_false_iff_not
abbrev Qoq:=@List.mergeSort_perm
abbrev Qvy:=@List.pairwise_mergeSort
abbrev Y0:=@List.length_singleton
abbrev Qop:=@List.mem_of_mem_take
abbrev De:=@List.map_congr_left
abbrev Qdf:=@List.getElem_mem
abbrev Tb:=@Bool.true_and
abbrev Xf:=@List.length_set
abbrev Qvx:=@List.nil_perm
abbrev Qoo:=@List.Perm.cons_inv
abbrev Dd:=@List.length_nil
abbrev Qon:=@Bool.eq_iff_iff
abbrev Pm:=@List.any_eq_true
abbrev Qvw:=@List.any_eq_false
abbrev Qde:=@List.mem_flatMap
abbrev Pk:=@List.nodup_iff_pairwise_ne
abbrev Qvv:=@Int.le_antisymm
abbrev Qvu:=@Bool.false_or
abbrev Qdd:=@List.map_set
abbrev Eg:=@List.filter_cons
abbrev Qdc:=@Nat.add_sub_cancel
abbrev Gt:=@Array.size_setIfInBounds
abbrev Gr:=@Prod.mk.inj
abbrev Q9e:=@List.mem_take_iff_getElem
abbrev Qom:=@List.Perm.refl
abbrev Qi5:=@Nat.min_le_right
abbrev Qol:=@List.range_succ
abbrev Q9d:=@List.length_eraseIdx_of_lt
abbrev Qvt:=@List.mem_or_eq_of_mem_set
abbrev Q9b:=@List.getElem?_eq_none_iff
abbrev Qvs:=@Nat.mul_le_mul
abbrev Qvr:=@decide_eq_true_iff
abbrev Fo:=@List.nodup_nil
abbrev U6:=@Nat.le_add_right
abbrev Pj:=@List.length_replicate
abbrev Qok:=@List.getElem?_zip_eq_some
abbrev Qoj:=@Nat.le_of_eq
abbrev Qvq:=@List.drop_left'
abbrev Pg:=@List.foldl_nil
abbrev Qvp:=@List.mem_iff_getElem
abbrev C1:=@List.mem_append_left
abbrev Ef:=@List.mem_append_right
abbrev Qoi:=@Nat.le_succ
abbrev Qvo:=@Nat.lt_succ_of_lt
abbrev Qvn:=@List.getElem?_replicate
abbrev Qvm:=@Bool.eq_false_iff
abbrev Qvl:=@List.cons.inj
abbrev Ta:=@List.exists_mem_of_ne_nil
abbrev Q9a:=@List.ne_nil_of_length_pos
abbrev Gq:=@List.sum_cons
abbrev Qi4:=@Nat.mul_add
abbrev Qi3:=@Nat.mul_le_mul_left
end Go.Proofs
namespace Go.Proofs.YtdackcibfkkniaaGreatDoor
open Go.ChangeShapes Go.WideShapes Go.ChangeAt Go.RowKit
theorem Q4r:ownKnob Tryz.prog.godebug=none:=by kernel_rfl
theorem laidOut:laidOutB Tryz.prog=true:=by kernel_rfl
section
variable {H:Type}{enc:TypeId×Value→H}
theorem Qjx{W j:World}(r:Below W.heap.size W j):∀(a:List TypeId) (c:List Value) (e:List (DataW H)) (ps:List MemPlace),
  (∀t,t∈a→Tryz.prog.readableRec t=true∧t<Tryz.prog.types.size)→DataW.TrodAll enc Tryz.prog W 0 (fun _=>true) true a c e ps→(∀p∈ps,p.block<W.heap.size) →
  DataW.TrodAll enc Tryz.prog j 0 (fun b=>decide (b<W.heap.size)) true a c e ps:=by
 intro a;induction a with
 | nil=>
  intro c e ps _ h _;obtain⟨rfl,rfl,rfl⟩:=trodAll_nil h;exact trodAll_mk0
 | cons t a n=>
  intro c e ps g h i;obtain⟨v,k,d,w,p,q,rfl,rfl,rfl,u,s⟩:=trodAll_cons h;obtain⟨m,l⟩:=g t Q2;exact trodAll_cons_mk (Below.trod laidOut m l u r (fun x f=>i x (by simp[f]))) (n _ _ _ (fun t o=>g t (by simp[o])) s (fun x f=>i x (by simp[f])))
theorem D6{W:World}:∀(a:List TypeId) (c:List Value) (b:List (DataW H)) (ps:List MemPlace),DataW.TrodAll enc Tryz.prog W 0 (fun _=>true) true a c b ps→b.length=a.length:=by
 intro a;induction a with
 | nil=>intro c b ps h;obtain⟨rfl,rfl,rfl⟩:=trodAll_nil h;rfl
 | cons t a f=>intro c b ps h;obtain⟨v,e,d,i,p,q,rfl,rfl,rfl,j,g⟩:=trodAll_cons h;simp[f _ _ _ g]
end
theorem Zb6{b n k:Nat}(h:b<n):b<n+k:=Qb
theorem Q5g{b n:Nat}(h:b<n):b<n+1+1:=Qb
theorem Q5f{b n:Nat}(h:b<n):b<n+1+1+1:=Qb
theorem Q5e{b n:Nat}(h:b<n):b<n+1+1+1+1:=Qb
theorem Q5d{b n:Nat}(h:b<n):b<n+1+1+1+1+1:=Qb
theorem Q5c{b n:Nat}(h:b<n):b<n+1+1+1+1+1+1:=Qb
theorem Q5b{b n:Nat}(h:b<n):b<n+1+1+1+1+1+1+1:=Qb
theorem Q5a{b n:Nat}(h:b<n):b<n+1+1+1+1+1+1+1+1:=Qb
theorem Q49{b n:Nat}(h:b<n):b<n+1+1+1+1+1+1+1+1+1:=Qb
theorem Q0s{b n:Nat}(h:b<n):b<n+1+1+1+1+1+1+1+1+1+1:=Qb
theorem Q0r{b n:Nat}(h:b<n):b<n+1+1+1+1+1+1+1+1+1+1+1:=Qb
theorem Q0q{b n:Nat}(h:b<n):b<n+1+1+1+1+1+1+1+1+1+1+1+1:=Qb
attribute [go_sem] Zb6 Q5g Q5f Q5e Q5d Q5c Q5b Q5a Q49 Q0s Q0r Q0q
def Ez(w:World)(v:Value)(n d:Nat)(xs:List Value):Prop:=
 xs.length=n*d∧∃b c,v=.slice b n c∧n≤c∧c≤maxLen∧(b=none→n=0∧c=0) ∧
  ∀a,b=some a→0<n→a.spot=none∧a.block<w.heap.size∧∀j u,xs[j]?=some u→w.cell? ⟨a.block,a.off+j,none⟩=some u
theorem Ez.mk(w:World)(b off n c d:Nat)(xs:List Value)(e:xs.length=n*d)(f:n≤c)(g:c≤maxLen)(i:b<w.heap.size)(h:∀j u,xs[j]?=some u→w.cell? ⟨b,off+j,none⟩=some u) :
  Ez w (.slice (some ⟨b,off,none⟩) n c) n d xs:=
 ⟨e,some ⟨b,off,none⟩,c,rfl,f,g,fun h=>(by cases h),fun a k _=>by cases k;exact⟨rfl,i,h⟩⟩
theorem Qco{w:World}{o:Obj}{g:Nat}(h:g=w.heap.size):(w.alloc o).heap[g]?=some o:=by subst h;exact heap_alloc_new w o
theorem Ez.block{W:World}{g n a:Nat}{e:TypeId}{f:Nat×Nat}(b:Array Value)(xs:List Value)(h:b.toList=xs)(d:W.heap[g]?=some (.cells b e f))(i:xs.length=n*a)(k:n≤maxLen):Ez W (.slice (some ⟨g,0,none⟩) n n) n a xs:=by
 refine Ez.mk W g 0 n n a xs i (Q1 _) k (Qwe.1 d).1 (fun j u c=>?_);rw[Qj2,cell_of_row W g j b e f d];rw[←h]at c
 simpa using c
structure Keeps(F:Nat→Prop)(w w':World):Prop where
 os:w'.os=w.os
 tape:w'.tape=w.tape
 output:w'.output=w.output
 size:w.heap.size≤w'.heap.size
 block:∀k,k<w.heap.size→¬F k→w'.heap[k]?=w.heap[k]?
 drawn:w.drawn≤w'.drawn
theorem Keeps.refl(F:Nat→Prop)(w:World):Keeps F w w:=⟨rfl,rfl,rfl,Q1 _,fun _ _ _=>rfl,Q1 _⟩
theorem Keeps.trans{F:Nat→Prop}{a b c:World}(h:Keeps F a b)(k:Keeps F b c):Keeps F a c:=
 ⟨k.os.trans h.os,k.tape.trans h.tape,k.output.trans h.output,Up h.size k.size,fun i d e=>(k.block i (Nat.lt_of_lt_of_le d h.size) e).trans (h.block i d e),Up h.drawn k.drawn⟩
theorem Keeps.drew{F:Nat→Prop}{a w:World}(h:Keeps F a w):Keeps F a w.drew:=⟨h.os,h.tape,h.output,h.size,h.block,Q88 h.drawn⟩
theorem Keeps.alloc{F:Nat→Prop}{a w:World}(h:Keeps F a w)(o:Obj):Keeps F a (w.alloc o):=
 h.trans ⟨rfl,rfl,rfl,Q2,fun k b _=>Below.heap_alloc _ _ _ b,Q1 _⟩
def Blk(w:World)(b:Nat)(e:TypeId)(a:Array Value):Prop:=w.heap[b]?=some (.cells a e (0,0))
theorem Blk.lt{w:World}{b:Nat}{e:TypeId}{a:Array Value}(h:Blk w b e a):b<w.heap.size:=(Qwe.1 h).1
theorem Blk.cell{w:World}{b:Nat}{e:TypeId}{a:Array Value}(h:Blk w b e a):∀o,w.cell? ⟨b,o,none⟩=a[o]?:=fun o=>cell_of_row w b o a e (0,0) h
theorem Blk.frozen{w:World}{b:Nat}{e:TypeId}{a:Array Value}(h:Blk w b e a):∀o,w.frozen? ⟨b,o,none⟩=false:=fun o=>frozen_of_row w b o a e h
theorem Blk.new{w:World}{e:TypeId}{a:Array Value}{b:Nat}(h:b=w.heap.size):Blk (w.alloc (.cells a e)) b e a:=Qco h
theorem Blk.set{w:World}{b:Nat}{e:TypeId}{a:Array Value}(h:Blk w b e a)(o:Nat)(u:Value):Blk (w.setCell ⟨b,o,none⟩ u) b e (a.setIfInBounds o u):=heap_setCell_same w b o a e u h
def Own(w:World)(e:TypeId)(d:Nat)(v:Value)(n:Nat)(xs:List Value)(g:Option Nat):Prop:=
 xs.length=n*d∧((v=.slice none 0 0∧n=0∧g=none) ∨
  ∃b off c a,v=.slice (some ⟨b,off,none⟩) n c∧g=some b∧Blk w b e a∧n≤c∧c≤maxLen∧off+c*d≤a.size∧(a.toList.drop off).take (n*d)=xs)
theorem Own.sl{w:World}{e:TypeId}{f:Nat}{v:Value}{n:Nat}{xs:List Value}{g:Option Nat}(h:Own w e f v n xs g):Ez w v n f xs:=by
 refine⟨h.1,?_⟩
 rcases h.2 with ⟨rfl,rfl,_⟩|⟨b,off,c,o,rfl,_,i,k,l,q,p⟩
 ·exact⟨none,0,rfl,Q1 _,Xq _,fun _=>⟨rfl,rfl⟩,fun a h=>by cases h⟩
 ·refine⟨some ⟨b,off,none⟩,c,rfl,k,l,fun h=>(by cases h),fun a m _=>?_⟩;cases m;refine⟨rfl,i.lt,fun j u d=>?_⟩;rw[i.cell];rw[←p,List.getElem?_take]at d
  split at d
  ·rw[Qsf]at d;simpa using d
  ·cases d
theorem Own.cases{w:World}{e:TypeId}{d:Nat}{v:Value}{n:Nat}{xs:List Value}{g:Option Nat}(h:Own w e d v n xs g) :
  (v=.slice none 0 0∧n=0∧xs=[]∧g=none)∨∃b off c,v=.slice (some ⟨b,off,none⟩) n c∧g=some b∧n≤c∧c≤maxLen∧b<w.heap.size∧(∀j,j<n*d→w.cell? ⟨b,off+j,none⟩=xs[j]?)∧(∀j,w.frozen? ⟨b,j,none⟩=false):=by
 rcases h.2 with ⟨rfl,rfl,a⟩|⟨b,off,c,p,o,m,a,l,k,q,i⟩
 ·exact .inl ⟨rfl,rfl,Ae (by simpa using h.1),a⟩
 ·refine .inr ⟨b,off,c,o,m,l,k,a.lt,fun j f=>?_,a.frozen⟩;rw[a.cell,←i,List.getElem?_take,Qh f,Qsf];simp
theorem Own.stored{w:World}{e:TypeId}{d:Nat}{b off n c:Nat}{xs:List Value}{g:Option Nat}(h:Own w e d (.slice (some ⟨b,off,none⟩) n c) n xs g)(j:Nat)(u:Value) :
  Own (w.setCell ⟨b,off+j,none⟩ u) e d (.slice (some ⟨b,off,none⟩) n c) n (xs.set j u) g:=by
 refine⟨by simpa using h.1,?_⟩
 rcases h.2 with ⟨a,_⟩|⟨s,f,r,q,a,p,o,m,l,k,i⟩
 ·cases a
 ·simp only[Value.slice.injEq,Km,Addr.mk.injEq,R6,B3]at a;obtain⟨⟨rfl,rfl⟩,rfl⟩:=a;refine .inr ⟨b,off,c,_,rfl,p,o.set _ u,m,l,by simpa using k,?_⟩;rw[Zgj,←i,List.drop_set,Qe Qb,Q9g,List.take_set]
section
variable {P:Program}{w:World}
theorem Rb(t p e:TypeId)(i:TypeInfo)(q:P.underlying t=some (.slice e))(s:P.info? e=some i)
  (g off d f:Nat) (h:Array Value) (v:Blk w g e h)
  (a:Addr) (m c:Nat) (b:List Value) (r:b.length=m*i.size) (n:∀j u,b[j]?=some u→w.cell? (a.add j)=some u) (y:∀u∈b,u.oneCell'=true)
  (l:d+m≤f) (k:off+d*i.size+b.length≤h.size) :
  (Builtin.append_ #[t,t] p #[.slice (some ⟨g,off,none⟩) d f,.slice (some a) m c]).run P w =
   .ok (.slice (some ⟨g,off,none⟩) (d+m) f) (w.setRow g (h.toList.take (off+d*i.size)++b++h.toList.drop (off+d*i.size+b.length)).toArray):=by
 have x:=run_firstCells_some (P:=P) w i.size m a m c b r n;have o:=run_storeCells_at P g (off+d*i.size) e b 0 h w v (by simpa using k) y;simp only[Qbl]at o;simp[Builtin.append_,run_underlying q,sizeOf,typeInfo,s,Builtin.lenOf,l,x,Addr.add_lit,o]
theorem Rc(t l e:TypeId)(i:TypeInfo)(b:P.underlying t=some (.slice e))(f:P.info? e=some i)(base:Option Addr)(n c:Nat)(d:n≤c)(k:Option Addr)(g:Nat) :
  (Builtin.append_ #[t,t] l #[.slice base n c,.slice k 0 g]).run P w=.ok (.slice base n c) w:=by
 cases k with
 | none=>
  cases base <;> simp[Builtin.append_,run_underlying b,sizeOf,typeInfo,f,Builtin.lenOf,d,Builtin.firstCells,storeCells]
 | some a=>
  have m:=run_firstCells_some (P:=P) w i.size 0 a 0 g [] Q2 (fun j u h=>by simp at h);cases base <;> simp[Builtin.append_,run_underlying b,sizeOf,typeInfo,f,Builtin.lenOf,d,m,storeCells]
theorem Qgf(t x e:TypeId)(i:TypeInfo)(z:Value)(size bytes:Nat)(H:P.underlying t=some (.slice e))(I:P.info? e=some i)(hz:i.zero=some z)
  (Z:i.size=size) (R:i.bytes=bytes) (L:z.cells.size=size)
  (v:Value) (n:Nat) (xs:List Value) (g:Option Nat) (f:Own w e size v n xs g)
  (xv:Value) (m:Nat) (d:List Value) (V:Ez w xv m size d) (h1:∀u∈d,u.oneCell'=true)
  (E:n+m≤maxLen) (G:(n+m)*bytes≤140737488355328) :
  ∃v' K S,(Builtin.append_ #[t,t] x #[v,xv]).run P w=.ok v' K∧Own K e size v' (n+m) (xs++d) S∧Keeps (fun b=>g=some b) w K∧(S=g∨S=some w.heap.size):=by
 subst Z;subst R
 obtain⟨q,ao,c,rfl,a0,C,X,W⟩:=V;have l:(xs++d).length=(n+m)*i.size:=by rw[Yd,f.1,q,Qi7]
 rcases Qsk m with rfl|hm
 ·have Y:d=[]:=Ae (by simpa using q);subst Y
  have p:∃base c0,v=.slice base n c0∧n≤c0:=by
   rcases f.2 with ⟨rfl,rfl,_⟩|⟨b,off,c0,h,rfl,_,_,h4,_⟩
   ·exact⟨none,0,rfl,Q1 _⟩
   ·exact⟨_,c0,rfl,h4⟩
  obtain⟨base,c0,rfl,p⟩:=p;exact⟨_,w,g,Rc t x e i H I base n c0 p ao c,by simpa using f,Keeps.refl _ _,.inl rfl⟩
 ·cases ao with
  | none=>have:=(X rfl).1;omega
  | some a=>
   obtain⟨g1,g2,g3⟩:=W a rfl hm
   have Hd:∀j u,d[j]?=some u→w.cell? (a.add j)=some u:=by
    intro j u y;have:=g3 j u y;have e:a=⟨a.block,a.off,none⟩:=by rw[←g1]
    rw[e,Addr.add_lit];exact this
   have D:((n+m:Nat):Int)≤9223372036854775807:=by simp only[maxLen]at E;omega
   have o:∀(Wo:Nat),Wo<n+m →
     Own (w.drew.alloc (.cells (xs.toArray++d.toArray++Builtin.zeroCells z.cells (grownCap w (n+m) Wo e-(n+m))) e)) e i.size
      (.slice (some ⟨w.heap.size,0,none⟩) (n+m) (grownCap w (n+m) Wo e)) (n+m) (xs++d) (some w.heap.size):=by
    intro Wo ho;have Q:=grownCap_ge w (n+m) Wo e;have C:grownCap w (n+m) Wo e≤maxLen:=grownCap_le_maxLen w (n+m) Wo e E
    refine⟨l,.inr ⟨w.heap.size,0,_,_,rfl,rfl,Blk.new (w:=w.drew) rfl,Q,C,?_,?_⟩⟩
    ·simp only[Qze,Qzd,size_zeroCells,L,f.1,q,←Qi7,Qj2];refine R5 _ Qb
    ·simp only[Q9c,Array.toList_append,Wb];rw[←Wb,←l];exact Q89
   rcases f.2 with ⟨rfl,rfl,rfl⟩|⟨b,off,c0,h,rfl,rfl,J,p,T,a1,Fh⟩
   ·have M:xs=[]:=Ae (by simpa using f.1);subst M;have A:=run_append_nil (P:=P) w t x e i z H I hz a m c d q Hd hm Qb (by have J:=G;simp only[Qj2]at J;omega);have B:=o 0 Qb;simp only[Qj2,Gf,Array.empty_append]at B ⊢;exact⟨_,_,_,A,B,(Keeps.refl _ _).drew.alloc _,.inr rfl⟩
   ·by_cases s:n+m≤c0
    ·have U:off+n*i.size+d.length≤h.size:=by
      have h2:n*i.size+m*i.size≤c0*i.size:=by rw[←Qi7];exact R5 _ s
      rw[q];omega
     have A:=Rb (P:=P) (w:=w) t x e i H I b off n c0 h J a m c d q Hd h1 s U
     refine⟨_,_,some b,A,⟨l,.inr ⟨b,off,c0,_,rfl,rfl,setRow_heap w b h _ e _ J,s,T,?_,?_⟩⟩,?_,.inl rfl⟩
     ·simp only[Qzd,Yd,V9,R4,Mk];omega
     ·have Uj:(h.toList.take (off+n*i.size)).length=off+n*i.size:=by simp;omega
      have e1:((h.toList.take (off+n*i.size)++d++h.toList.drop (off+n*i.size+d.length)).drop off).take ((n+m)*i.size)=(h.toList.take (off+n*i.size)).drop off++d:=by
       rw[Wb,Qzc Qb,Qi7,←q,←Wb];have O:((h.toList.take (off+n*i.size)).drop off++d).length=n*i.size+d.length:=by rw[Yd,R4,Uj];omega
       rw[←O];exact Q89
      rw[e1,←Fh,Qsj]
      congr 2
      omega
     ·exact⟨rfl,rfl,rfl,by simp[World.setRow],fun k _ hk=>setRow_other w b k _ (fun e=>hk (by rw[e])),Q1 _⟩
    ·have r:∀j u,xs[j]?=some u→w.cell? ((⟨b,off,none⟩:Addr).add j)=some u:=by
      intro j u y;rw[Addr.add_lit];obtain⟨_,a2,c',F,_,_,_,h5⟩:=f.sl;simp only[Value.slice.injEq]at F;obtain⟨rfl,_,rfl⟩:=F
      have N:0<n:=by
       rcases Qsk n with h0|h0
       ·subst h0;have M:xs=[]:=Ae (by simpa using f.1);rw[M]at y;simp at y
       ·exact h0
      exact(h5 _ rfl N).2.2 j u y
     have A:=run_append_grow (P:=P) w t x e i z H I hz ⟨b,off,none⟩ n c0 xs f.1 r a m c d q Hd Qb D (growslice_fits Qb G);exact⟨_,_,_,A,o c0 Qb,(Keeps.refl _ _).drew.alloc _,.inr rfl⟩
end
theorem Qjh{P:Program}{w:World}{o:Oper}{a:Act}{K:Act→World→Prop}{Q:Exit→Act→World→Prop}(s x:Operand)(t:TypeId)
  (H:o.op=.call {callee:=.builtin .append,args:=#[s,x],argTypes:=#[t,t]})
  (e:TypeId) (i:TypeInfo) (z:Value) (size bytes:Nat) (E:P.underlying t=some (.slice e)) (I:P.info? e=some i) (C:i.zero=some z)
  (B:i.size=size) (q:i.bytes=bytes) (p:z.cells.size=size)
  (v:Value) (n:Nat) (xs:List Value) (g:Option Nat) (f:Own w e size v n xs g) (F:a.eval s=v)
  (l:Value) (m:Nat) (c:List Value) (D:a.eval x=l) (y:Ez w l m size c) (N:∀u∈c,u.oneCell'=true)
  (r:n+m≤maxLen) (A:(n+m)*bytes≤140737488355328)
  (h:∀k d j,Own d e size k (n+m) (xs++c) j→Keeps (fun b=>g=some b) w d→(j=g∨j=some w.heap.size)→K (a.put o.dst k) d):o.wp P a w K Q:=by
 obtain⟨k,d,j,G,M,L,J⟩:=Qgf (P:=P) (w:=w) t o.type e i z size bytes E I C B q p v n xs g f l m c y N r A;unfold Oper.wp execOp;simp only[H,resolve,invoke,builtin,Sem.run_bind,Sem.run_pure,Result.andThen_ok,List.map_toArray,Z7,Qzb,F,D,G];exact h k d j M L J
def HL:Type:=Nat→Option Obj
namespace HL
def le(h k:HL):Prop:=∀b o,h b=some o→k b=some o
def disj(h k:HL):Prop:=∀b,h b=none∨k b=none
def of(w:World):HL:=fun b=>w.heap[b]?
def join(h k:HL):HL:=fun b=>match h b with|some o=>some o|none=>k b
def one(b:Nat)(o:Obj):HL:=fun x=>if x=b then some o else none
def emp:HL:=fun _=>none
theorem le.refl(h:HL):le h h:=fun _ _ e=>e
theorem le.trans{a b c:HL}(h:le a b)(k:le b c):le a c:=fun x o e=>k x o (h x o e)
theorem disj.symm{a b:HL}(h:disj a b):disj b a:=fun x=>(h x).symm
theorem disj.mono{a b d c:HL}(h:disj a b)(f:le d a)(e:le c b):disj d c:=by
 intro x;cases i:d x with
 | none=>exact .inl rfl
 | some o=>
  refine .inr ?_;cases g:c x with
  | none=>rfl
  | some p=>rcases h x with h|h <;> simp[f x _ i,e x _ g]at h
theorem Du(a b:HL):le a (join a b):=fun x o e=>by simp[join,e]
theorem Ei{a b:HL}(h:disj a b):le b (join a b):=fun x o e=>by
 rcases h x with h|h
 ·simp[join,h,e]
 ·rw[h]at e;cases e
theorem join_le{a b c:HL}(f:le a c)(d:le b c):le (join a b) c:=fun x o e=>by
 unfold join at e;cases h:a x with
 | none=>rw[h]at e;exact d x o e
 | some p=>rw[h]at e;cases e;exact f x _ h
theorem join_none{a b:HL}{x:Nat}(d:a x=none)(c:b x=none):join a b x=none:=by simp[join,d,c]
theorem Qc2{a b c:HL}(f:disj a b)(e:disj a c):disj a (join b c):=by
 intro x
 rcases f x with h|h
 ·exact .inl h
 ·rcases e x with d|d
  ·exact .inl d
  ·exact .inr (join_none h d)
theorem Hm(a:HL):le emp a:=fun _ _ e=>by cases e
theorem J2(a:HL):disj emp a:=fun _=>.inl rfl
theorem one_le{b:Nat}{o:Obj}{h:HL}(e:h b=some o):le (one b o) h:=fun x p a=>by
 unfold one at a
 split at a
 ·rename_i c;cases a;rw[c];exact e
 ·cases a
theorem Vf(b:Nat)(o:Obj):one b o b=some o:=by simp[one]
theorem Kr{b x:Nat}{o:Obj}(h:x≠b):one b o x=none:=by simp[one,h]
end HL
abbrev Assn:=HL→Prop
def stars:List Assn→HL→Prop
 | [],_=>True
 | P::Γ,h=>∃b a,HL.disj b a∧HL.le b h∧HL.le a h∧P b∧stars Γ a
theorem Qfw{Γ:List Assn}{h k:HL}(e:stars Γ h)(a:HL.le h k):stars Γ k:=by
 cases Γ with
 | nil=>trivial
 | cons P Γ=>
  obtain⟨g,f,d,c,b,p,s⟩:=e;exact⟨g,f,d,c.trans a,b.trans a,p,s⟩
theorem Qs4{P Q:Assn}{Γ:List Assn}{h:HL}(j:stars (P::Q::Γ) h):stars (Q::P::Γ) h:=by
 obtain⟨c,m,d,i,g,p,k,b,l,f,e,q,s⟩:=j;have a:HL.disj c b:=d.mono (HL.le.refl _) e;exact⟨k,HL.join c b,HL.Qc2 (d.mono (HL.le.refl _) f).symm l,f.trans g,HL.join_le i (e.trans g),q,c,b,a,HL.Du _ _,HL.Ei a,p,s⟩
def Ent(Γ a:List Assn):Prop:=∀h,stars Γ h→stars a h
theorem Ent.refl(Γ:List Assn):Ent Γ Γ:=fun _ h=>h
theorem Ent.trans{Γ b a:List Assn}(h:Ent Γ b)(k:Ent b a):Ent Γ a:=fun x c=>k x (h x c)
theorem Ent.cons{Γ a:List Assn}(P:Assn)(h:Ent Γ a):Ent (P::Γ) (P::a):=fun _ ⟨f,e,d,c,b,p,s⟩=>⟨f,e,d,c,b,p,h _ s⟩
theorem Ent.swap(P Q:Assn)(Γ:List Assn):Ent (P::Q::Γ) (Q::P::Γ):=fun _ h=>Qs4 h
theorem Ent.drop(P:Assn)(Γ:List Assn):Ent (P::Γ) Γ:=fun _ ⟨_,_,_,_,a,_,s⟩=>Qfw s a
theorem Ent.Kg{P Q:Assn}(Γ:List Assn)(h:∀x,P x→Q x):Ent (P::Γ) (Q::Γ):=fun _ ⟨e,c,d,b,a,p,s⟩=>⟨e,c,d,b,a,h _ p,s⟩
theorem Ent.append{Γ b:List Assn}(a:List Assn)(h:Ent Γ b):Ent (a++Γ) (a++b):=by
 induction a with
 | nil=>exact h
 | cons P a c=>exact c.cons P
theorem Wi{Γ Δ:List Assn}{h:HL}:stars (Γ++Δ) h↔stars (stars Γ::Δ) h:=by
 induction Γ generalizing h with
 | nil=>exact⟨fun r=>⟨HL.emp,h,HL.J2 _,HL.Hm _,HL.le.refl _,trivial,r⟩,fun⟨_,_,_,_,a,_,s⟩=>Qfw s a⟩
 | cons P Γ n=>
  constructor
  ·rintro ⟨l,k,d,j,a,p,s⟩;obtain⟨f,e,m,c,b,q,o⟩:=n.1 s;have i:HL.disj l f:=d.mono (HL.le.refl _) c;refine⟨HL.join l f,e,(HL.Qc2 (d.mono (HL.le.refl _) b).symm m.symm).symm,HL.join_le j (c.trans a),b.trans a,⟨l,f,i,HL.Du _ _,HL.Ei i,p,q⟩,o⟩
  ·rintro ⟨l,k,d,j,a,⟨f,e,m,c,b,p,q⟩,s⟩;have g:HL.disj e k:=d.mono b (HL.le.refl _);exact⟨f,HL.join e k,HL.Qc2 m (d.mono c (HL.le.refl _)),c.trans j,HL.join_le (b.trans j) a,p,n.2 ⟨e,k,g,HL.Du _ _,HL.Ei g,q,s⟩⟩
class Pick(P:Assn)(Γ:List Assn)(Δ:outParam (List Assn)):Prop where
 Qs:Ent Γ (P::Δ)
instance (priority:=high) Pick.head{P:Assn}{Γ:List Assn}:Pick P (P::Γ) Γ:=⟨Ent.refl _⟩
instance Pick.tail{P Q:Assn}{Γ a:List Assn}[h:Pick P Γ a]:Pick P (Q::Γ) (Q::a):=⟨(h.Qs.cons Q).trans (Ent.swap _ _ _)⟩
class Tail(Δ Γ:List Assn):Prop where
 Qs:Ent Γ Δ
instance (priority:=high) Tail.refl{Γ:List Assn}:Tail Γ Γ:=⟨Ent.refl _⟩
instance Tail.drop{P:Assn}{a Γ:List Assn}[h:Tail a Γ]:Tail a (P::Γ):=⟨(Ent.drop P Γ).trans h.Qs⟩
class Sub(Δ Γ:List Assn):Prop where
 Qs:Ent Γ Δ
instance (priority:=high) Sub.nil{Γ:List Assn}:Sub [] Γ:=⟨fun _ _=>trivial⟩
instance Sub.cons{P:Assn}{b Γ a:List Assn}[p:Pick P Γ a][s:Sub b a]:Sub (P::b) Γ:=⟨p.Qs.trans (s.Qs.cons P)⟩
instance (priority:=low) Sub.tail{a Γ:List Assn}[h:Tail a Γ]:Sub a Γ:=⟨h.Qs⟩
class Picks(Δ Γ:List Assn)(Θ:outParam (List Assn)):Prop where
 Qs:Ent Γ (Δ++Θ)
instance (priority:=high) Picks.nil{Γ:List Assn}:Picks [] Γ Γ:=⟨Ent.refl _⟩
instance Picks.cons{P:Assn}{c Γ b a:List Assn}[p:Pick P Γ b][s:Picks c b a]:Picks (P::c) Γ a:=⟨p.Qs.trans (s.Qs.cons P)⟩
def Sat(w:World)(Γ:List Assn):Prop:=∃h,HL.le h (HL.of w)∧stars Γ h
theorem Sat.Qs{w:World}{Γ Δ:List Assn}(h:Sat w Γ)(e:Ent Γ Δ):Sat w Δ:=h.imp fun _ ⟨l,s⟩=>⟨l,e _ s⟩
theorem Sat.of_heap{w a:World}{Γ:List Assn}(h:Sat w Γ)(e:a.heap=w.heap):Sat a Γ:=by
 obtain⟨h,l,s⟩:=h;exact⟨h,fun b o c=>by have:=l b o c;unfold HL.of at *;rw[e];exact this,s⟩
theorem Sat.head{w:World}{P:Assn}{Γ:List Assn}(h:Sat w (P::Γ)):∃x,HL.le x (HL.of w)∧P x:=by
 obtain⟨h,l,b,e,d,a,c,p,s⟩:=h;exact⟨b,a.trans l,p⟩
theorem Sat.upd{w g:World}{P q:Assn}{Γ:List Assn}(v:Sat w (P::Γ))
  (h:∀x,HL.le x (HL.of w)→P x→∃a,HL.le a (HL.of g)∧q a∧(∀b,x b=none→w.heap[b]?≠none→a b=none∧g.heap[b]?=w.heap[b]?)):Sat g (q::Γ):=by
 obtain⟨h0,l,k,f,d,u,m,p,s⟩:=v;obtain⟨a,t,r,fx⟩:=h k (u.trans l) p
 have i:HL.le f (HL.of g):=fun b o e=>by
  have c:=m.trans l b o e;have j:k b=none:=(d b).resolve_right (by rw[e];simp);have:=(fx b j (by unfold HL.of at c;rw[c];simp)).2;unfold HL.of at *;rw[this];exact c
 have n:HL.disj a f:=fun b=>by
  cases e:f b with
  | none=>exact .inr rfl
  | some o=>
   have c:=m.trans l b o e;have j:k b=none:=(d b).resolve_right (by rw[e];simp);exact .inl (fx b j (by unfold HL.of at c;rw[c];simp)).1
 exact⟨HL.join a f,HL.join_le t i,a,f,n,HL.Du _ _,HL.Ei n,r,s⟩
def blk(b:Nat)(e:TypeId)(a:Array Value):Assn:=fun h=>h b=some (.cells a e (0,0))
theorem Sat.Q5z{w:World}{b:Nat}{e:TypeId}{a:Array Value}{Γ:List Assn}(h:Sat w (blk b e a::Γ)):Blk w b e a:=by
 obtain⟨x,l,p⟩:=h.head;exact l b _ p
theorem Sat.alloc{w:World}{Γ:List Assn}(h:Sat w Γ)(e:TypeId)(a:Array Value):Sat (w.alloc (.cells a e)) (blk w.heap.size e a::Γ):=by
 have d:Sat w ((fun _=>True:Assn)::Γ):=by
  obtain⟨x,l,s⟩:=h;exact⟨x,l,HL.emp,x,HL.J2 _,HL.Hm _,HL.le.refl _,trivial,s⟩
 refine d.upd fun x _ _=>⟨HL.one w.heap.size (.cells a e),HL.one_le (Qco rfl),HL.Vf _ _,fun b _ c=>?_⟩
 have f:b<w.heap.size:=by
  rcases Nz b w.heap.size with h|h
  ·exact h
  ·simp[Array.getElem?_eq_none h]at c
 exact⟨HL.Kr Qb,Below.heap_alloc _ _ _ f⟩
theorem Sat.setCell{w:World}{Γ:List Assn}{b:Nat}{e:TypeId}{a:Array Value}(h:Sat w (blk b e a::Γ))(o:Nat)(v:Value) :
  Sat (w.setCell ⟨b,o,none⟩ v) (blk b e (a.setIfInBounds o v)::Γ):=by
 refine h.upd fun x l p=>⟨HL.one b (.cells (a.setIfInBounds o v) e),HL.one_le ((show Blk w b e a from l b _ p).set o v),HL.Vf _ _,fun c d _=>?_⟩;have f:c≠b:=fun e=>by subst e;rw[p]at d;cases d
 exact⟨HL.Kr f,Below.heap_setCell _ _ _ _ f⟩
structure Zrw(w w':World):Prop where
 os:w'.os=w.os
 tape:w'.tape=w.tape
 output:w'.output=w.output
 size:w.heap.size≤w'.heap.size
 drawn:w.drawn≤w'.drawn
structure WM(md:Bool) where
 w:World
structure Ext{md:Bool}(a:WM md)(w':World):Prop where
 os:w'.os=a.w.os
 tape:w'.tape=a.w.tape
 output:w'.output=a.w.output
 size:a.w.heap.size≤w'.heap.size
 drawn:md=true→a.w.drawn≤w'.drawn
theorem Ext.refl{md:Bool}(w:World):Ext (⟨w⟩:WM md) w:=⟨rfl,rfl,rfl,Q1 _,fun _=>Q1 _⟩
theorem Ext.trans{md:Bool}{a:WM md}{b c:World}(h:Ext a b)(k:Zrw b c):Ext a c:=⟨k.os.trans h.os,k.tape.trans h.tape,k.output.trans h.output,Up h.size k.size,fun e=>Up (h.drawn e) k.drawn⟩
theorem Ext.Qs1{md:Bool}{a:WM md}{b c:World}(h:Ext a b)(k:Ext (⟨b⟩:WM md) c):Ext a c:=⟨k.os.trans h.os,k.tape.trans h.tape,k.output.trans h.output,Up h.size k.size,fun e=>Up (h.drawn e) (k.drawn e)⟩
theorem Ext.alloc{md:Bool}{a:WM md}{w:World}(h:Ext a w)(o:Obj):Ext a (w.alloc o):=h.trans ⟨rfl,rfl,rfl,Q2,Q1 _⟩
theorem Ext.setCell{md:Bool}{a:WM md}{w:World}(h:Ext a w)(p:Addr)(v:Value):Ext a (w.setCell p v):=h.trans ⟨rfl,rfl,rfl,by simp[World.setCell],Q1 _⟩
theorem Ext.drew{md:Bool}{a:WM md}{w:World}(h:Ext a w):Ext a w.drew:=⟨h.os,h.tape,h.output,h.size,fun e=>Q88 (h.drawn e)⟩
abbrev Env:=List (Nat×Value)
abbrev Env.get:Env→Nat→Option Value
 | [],_=>none
 | (t,v)::ρ,x=>match Nat.beq t x with
  | true=>some v
  | false=>Env.get ρ x
abbrev ev(ρ:Env):Operand→Option Value
 | .tmp t=>Env.get ρ t
 | .const v=>some v
 | .global g=>some (.pointer (some ⟨g,0,none⟩))
 | .func f=>some (.func (.func f) #[] #[])
structure Jt(n:Nat)(ρ:Env)(a:Act):Prop where
 size:a.tmps.size=n
 defers:a.defers=[]
 get:∀t v,Env.get ρ t=some v→a.tmps.getD t undef=v
theorem Jt.ev{n:Nat}{ρ:Env}{a:Act}(h:Jt n ρ a){x:Operand}{v:Value}(b:ev ρ x=some v):a.eval x=v:=by
 cases x with
 | tmp t=>exact h.get t v b
 | const u=>simpa [Act.eval,Go.Proofs.YtdackcibfkkniaaGreatDoor.ev] using b
 | global g=>simpa [Act.eval,Go.Proofs.YtdackcibfkkniaaGreatDoor.ev] using b
 | func f=>simpa [Act.eval,Go.Proofs.YtdackcibfkkniaaGreatDoor.ev] using b
theorem Jt.put{n:Nat}{ρ:Env}{a:Act}(h:Jt n ρ a){d:Nat}(g:Nat.blt d n=true)(v:Value):Jt n ((d,v)::ρ) (a.put (some d) v):=by
 have f:d<a.tmps.size:=by rw[h.size];have:=g;simp[Nat.blt]at this;omega
 refine⟨by simp[Act.put,h.size],h.defers,fun t u b=>?_⟩;unfold Env.get at b;cases c:Nat.beq d t with
 | true=>
  rw[c]at b;have:=Qbk c;subst this;cases b;simp[Act.put,f]
 | false=>
  rw[c]at b;have i:d≠t:=fun e=>by subst e;simp[Nat.beq_refl]at c
  have:=h.get t u b
  simpa [Act.put,Array.getElem?_setIfInBounds_ne i] using this
def Ad:Env→Env→Prop
 | [],_=>True
 | (t,v)::a,ρ=>Env.get ρ t=some v∧Ad a ρ
theorem Ad.get{b ρ:Env}(h:Ad b ρ):∀t v,Env.get b t=some v→Env.get ρ t=some v:=by
 induction b with
 | nil=>intro t v a;cases a
 | cons p b e=>
  intro t v a;obtain⟨d,f⟩:=p;unfold Env.get at a;cases c:Nat.beq d t with
  | true=>
   rw[c]at a;have:=Qbk c;subst this;cases a;exact h.1
  | false=>rw[c]at a;exact e h.2 t v a
theorem Jt.sub{n:Nat}{b ρ:Env}{a:Act}(h:Jt n ρ a)(d:Ad b ρ):Jt n b a:=⟨h.size,h.defers,fun t v c=>h.get t v (d.get t v c)⟩
def S{md:Bool}(n:Nat)(w0:WM md)(ρ:Env)(Γ:List Assn)(b:Act→World→Prop):Prop:=∀a w,Jt n ρ a→Sat w Γ→Ext w0 w→b a w
def Spec(P:Program)(f:FuncId)(args:List Value)(pre:List Assn)(post:List Assn→Value→List Assn→Prop)(md:Bool:=false):Prop:=
 ∀(Γ:List Assn) (w:World),Sat w (pre++Γ)→Calls P f args.toArray w fun e b=>∃v a,e=.returned v∧post Γ v a∧Sat b a∧Ext (⟨w⟩:WM md) b
def Fin{md:Bool}(P:Program)(fn:Func)(post:List Assn→Value→List Assn→Prop)(Γ:List Assn)(w0:WM md):Exit→Act→World→Prop:=
 bodyPost P fn fun e b=>∃v a,e=.returned v∧post Γ v a∧Sat b a∧Ext w0 b
def Nl:Nat→List Value→Env
 | _,[]=>[]
 | k,v::l=>(k,v)::Nl (k+1) l
theorem S4(l:List Value):∀k t v,Env.get (Nl k l) t=some v→k≤t∧l[t-k]?=some v:=by
 induction l with
 | nil=>intro k t v h;cases h
 | cons u l b=>
  intro k t v h;unfold Nl Env.get at h;cases a:Nat.beq k t with
  | true=>
   rw[a]at h;have:=Qbk a;subst this;cases h;simp
  | false=>
   rw[a]at h;obtain⟨d,c⟩:=b (k+1) t v h;refine⟨Qb,?_⟩;rw[show t-k=(t-(k+1))+1 by omega]
   simpa using c
section
variable {P:Program}{n:Nat}{md:Bool}{w0:WM md}{ρ:Env}{Γ:List Assn}{Q:Exit→Act→World→Prop}
theorem Spec.Ht{f:FuncId}{fn:Func}{c:Code}{l:List Value}{pre:List Assn}{post:List Assn→Value→List Assn→Prop}(i:P.funcs[f]?=some fn)(j:fn.body=some c)(e:fn.ntmps=n)(g:Nat.ble l.length n=true)
  (h:∀(w0:WM md) Γ,S n w0 (Nl 0 l) (pre++Γ) (c.wp P (Fin P fn post Γ w0))):Spec P f l pre post md:=by
 intro Γ w d
 refine calls_of_wp i j (h ⟨w⟩ Γ _ w ⟨?_,rfl,fun t v b=>?_⟩ d (Ext.refl _))
 ·have:=Qbj g;simp[e];omega
 ·obtain⟨_,a⟩:=S4 l 0 t v b;simp only[Qza]at a;have k:t<l.length:=(Yz.1 a).1;have:=(Yz.1 a).2;simp[Array.getElem?_append_left,k,this]
theorem S.mono{c b:Act→World→Prop}(h:S n w0 ρ Γ c)(k:∀a w,c a w→b a w):S n w0 ρ Γ b:=fun a w f e d=>k _ _ (h a w f e d)
theorem S.Qs{b:Act→World→Prop}{Δ:List Assn}(e:Ent Γ Δ)(h:S n w0 ρ Δ b):S n w0 ρ Γ b:=fun a w f d c=>h a w f (d.Qs e) c
theorem S.sub{a:Act→World→Prop}(b:List Assn)[e:Sub b Γ](h:S n w0 ρ b a):S n w0 ρ Γ a:=S.Qs e.Qs h
theorem S.seq{x y:Code}(h:∀K:Act→World→Prop,(∀ρ Γ,S n w0 ρ Γ (y.wp P Q)→S n w0 ρ Γ K)→S n w0 ρ Γ (x.wp P (Exit.then K Q))):S n w0 ρ Γ ((Code.seq x y).wp P Q):=
 fun a w d c b=>wp_seq (h _ (fun _ _ h=>h) a w d c b)
theorem S.skip(h:S n w0 ρ Γ (Q .normal)):S n w0 ρ Γ (Code.skip.wp P Q):=fun a w d c b=>wp_skip (h a w d c b)
theorem S.block{id:Nat}{c:Code}(h:S n w0 ρ Γ (c.wp P (Exit.inBlock id Q))):S n w0 ρ Γ ((Code.block id c).wp P Q):=fun a w e d b=>wp_block (h a w e d b)
theorem S.exit{id:Nat}(h:S n w0 ρ Γ (Q (.exit id))):S n w0 ρ Γ ((Code.exit id).wp P Q):=fun a w d c b=>wp_exit (h a w d c b)
theorem S.ret(h:S n w0 ρ Γ (Q .ret)):S n w0 ρ Γ (Code.ret.wp P Q):=fun a w d c b=>wp_ret (h a w d c b)
theorem S.cond{c:Operand}{x y:Code}{t:Bool}(g:ev ρ c=some (.bool t))(i:t=true→S n w0 ρ Γ (x.wp P Q))(h:t=false→S n w0 ρ Γ (y.wp P Q)):S n w0 ρ Γ ((Code.cond c x y).wp P Q):=
 fun a w b f d=>wp_cond_split (b.ev g) (fun e=>i e a w b f d) (fun e=>h e a w b f d)
theorem S.Zgb{c:Operand}{x y:Code}{p:Prop}[d:Decidable p](a:ev ρ c=some (.bool (decide p)))(f:p→S n w0 ρ Γ (x.wp P Q))(b:¬p→S n w0 ρ Γ (y.wp P Q)):S n w0 ρ Γ ((Code.cond c x y).wp P Q):=
 S.cond a (fun e=>f (U4 e)) (fun e=>b (Qi2 e))
theorem S.Qrt{c:Operand}{x y:Code}(f:ev ρ c=some (.bool true))(h:S n w0 ρ Γ (x.wp P Q)):S n w0 ρ Γ ((Code.cond c x y).wp P Q):=fun a w b e d=>wp_cond_true (b.ev f) (h a w b e d)
theorem S.Qec{c:Operand}{x y:Code}(f:ev ρ c=some (.bool false))(h:S n w0 ρ Γ (y.wp P Q)):S n w0 ρ Γ ((Code.cond c x y).wp P Q):=fun a w b e d=>wp_cond_false (b.ev f) (h a w b e d)
theorem S.Kx{K:Act→World→Prop}(h:S n w0 ρ Γ K):S n w0 ρ Γ (Exit.then K Q .normal):=h
theorem S.Kw{K:Act→World→Prop}{i:Nat}(h:S n w0 ρ Γ (Q (.exit i))):S n w0 ρ Γ (Exit.then K Q (.exit i)):=h
theorem S.We{i:Nat}(h:S n w0 ρ Γ (Q .normal)):S n w0 ρ Γ (Exit.inBlock i Q .normal):=h
theorem S.Qcn{i:Nat}(h:S n w0 ρ Γ (Q .normal)):S n w0 ρ Γ (Exit.inBlock i Q (.exit i)):=fun a w d c b=>by simpa [Exit.inBlock] using h a w d c b
def Next{md:Bool}(n:Nat)(w0:WM md)(I:Nat→Env→List Assn→Prop)(m:Nat):Act→World→Prop:=fun a w=>∃b,b < m∧∃ρ Γ,I b ρ Γ∧Jt n ρ a∧Sat w Γ∧Ext w0 w
theorem S.loop{c:Code}(I:Nat→Env→List Assn→Prop){m:Nat}{ρ0:Env}{Γ0:List Assn}(h0:I m ρ0 Γ0)(b:Ad ρ0 ρ)(d:Ent Γ Γ0)
  (round:∀m ρ Γ,I m ρ Γ→S n w0 ρ Γ (c.wp P (Exit.then (Next n w0 I m) Q))):S n w0 ρ Γ ((Code.loop c).wp P Q):=by
 intro a w g f e;refine wp_loop_ghost (fun k a w=>∃ρ Γ,I k ρ Γ∧Jt n ρ a∧Sat w Γ∧Ext w0 w) m ⟨ρ0,Γ0,h0,g.sub b,f.Qs d,e⟩ ?_;rintro k a w ⟨ρ,Γ,h,g,f,e⟩;exact round k ρ Γ h a w g f e
theorem S.next{I:Nat→Env→List Assn→Prop}{m:Nat}(c:Nat){a:Env}{b:List Assn}(j:I c a b)(h:c < m)(d:Ad a ρ)(e:Ent Γ b):S n w0 ρ Γ (Next n w0 I m):=
 fun _ _ i g f=>⟨c,h,a,b,j,i.sub d,g.Qs e,f⟩
end
def Fy(P:Program)(t:TypeId):Bool:=match P.underlying t with
 | some (.struct _)|some (.array _ _)|none=>false
 | some _=>(P.info? t).map (·.size)==some 1
def S5(P:Program)(t:TypeId):Option Nat:=match P.underlying t with
 | some (.struct _)|some (.array _ _)=>(P.info? t).map (·.size)
 | _=>none
def Sz(P:Program)(t:TypeId)(f:Nat):Option Nat:=match P.underlying t with
 | some (.struct a)=>match a[f]? with
  | some x=>match P.info? x.type with
   | some i=>if i.size=0 then none else some x.offset
   | none=>none
  | none=>none
 | _=>none
def Uq(P:Program)(t:TypeId):Option (List Value):=((P.info? t).bind (·.zero)).map (·.cells.toList)
def Nw(P:Program)(t:TypeId):Option (TypeId×Nat):=match P.underlying t with
 | some (.slice e)=>(P.info? e).map fun i=>(e,i.size)
 | _=>none
def Q1u(P:Program)(t:TypeId):Option (Nat×Nat):=match P.underlying t with
 | some (.array n e)=>(P.info? e).map fun i=>(n,i.size)
 | _=>none
def Qjo(P:Program)(t:TypeId):Option IntKind:=match P.underlying t with
 | some (.int k)=>some k
 | _=>none
def Jj(P:Program)(f:FuncId):Bool:=match P.funcs[f]? with
 | some fn=>fn.name != "runtime.NumGoroutine" && fn.body.isSome
 | none=>false
def Ul(P:Program)(t:TypeId):Option (List (Nat×Nat)):=match P.underlying t with
 | some (.struct a)=>a.toList.mapM fun f=>(P.info? f.type).map fun i=>(f.offset,i.size)
 | _=>none
abbrev lg:List Value→Nat→Option Value
 | [],_=>none
 | v::_,0=>some v
 | _::a,n+1=>lg a n
theorem Ze6:∀(l:List Value) (n:Nat),lg l n=l[n]?
 | [],_=>by simp[lg]
 | _::_,0=>by simp[lg]
 | _::a,n+1=>by simp[lg,Ze6 a n]
theorem Qnk{a:Array Value}{o:Nat}{v:Value}(h:lg a.toList o=some v):a[o]?=some v:=by rw[Ze6]at h;simpa using h
def Seg(a:Array Value)(o:Nat):List Value→Prop
 | []=>True
 | v::b=>lg a.toList o=some v∧Seg a (o+1) b
theorem Seg.get{c:Array Value}{o:Nat}{a:List Value}(h:Seg c o a):∀j v,a[j]?=some v→c[o+j]?=some v:=by
 induction a generalizing o with
 | nil=>intro j v h;simp at h
 | cons u a d=>
  intro j v b;cases j with
  | zero=>simp only[Qsi,Km]at b;subst b;exact Qnk h.1
  | succ j=>have:=d h.2 j v (by simpa using b);rwa [show o+1+j=o+(j+1) by omega]at this
def EvL(ρ:Env):List Operand→List Value→Prop
 | [],[]=>True
 | x::xs,v::a=>ev ρ x=some v∧EvL ρ xs a
 | _,_=>False
theorem EvL.map{n:Nat}{ρ:Env}{a:Act}(c:Jt n ρ a):∀ {xs:List Operand} {b:List Value},EvL ρ xs b→xs.map a.eval=b
 | [],[],_=>rfl
 | _::_,_::_,h=>by rw[Z7,c.ev h.1,EvL.map c h.2]
 | [],_::_,h=>h.elim
 | _::_,[],h=>h.elim
class Mh(Γ:List Assn)(b:Nat)(e:outParam TypeId)(cs:outParam (Array Value))(Δ:outParam (List Assn)):Prop where
 Qs:Ent Γ (blk b e cs::Δ)
instance (priority:=high) Mh.head{Γ:List Assn}{b:Nat}{e:TypeId}{a:Array Value}:Mh (blk b e a::Γ) b e a Γ:=⟨Ent.refl _⟩
instance Mh.tail{P:Assn}{Γ a:List Assn}{b:Nat}{e:TypeId}{c:Array Value}[h:Mh Γ b e c a]:Mh (P::Γ) b e c (P::a):=⟨(h.Qs.cons P).trans (Ent.swap _ _ _)⟩
theorem Mh.blk{Γ Δ:List Assn}{b:Nat}{e:TypeId}{a:Array Value}(h:Mh Γ b e a Δ){w:World}(c:Sat w Γ):Blk w b e a:=(c.Qs h.Qs).Q5z
def Qv(P:Program)(n:Nat)(ρ:Env)(Γ:List Assn)(o:Oper)(v:Value):Prop:=∀a w,Jt n ρ a→Sat w Γ→(execOp a.eval o).run P w=.ok (.value v) w
def Ow(P:Program)(Q:Exit→Act→World→Prop)(o:Oper)(K:Act→World→Prop):Act→World→Prop:=fun a w=>o.wp P a w K Q
def wpL(P:Program)(Q:Exit→Act→World→Prop):List Oper→Act→World→Prop
 | [],a,w=>Q .normal a w
 | o::rest,a,w=>o.wp P a w (wpL P Q rest) Q
theorem Qj4{P:Program}{Q:Exit→Act→World→Prop}{b:Array Oper}:∀(l:List Oper),(l.all fun o=>o.guard.isNone)=true→∀a w,wpL P Q l a w→wpList P b Q l a w:=by
 intro l;induction l with
 | nil=>intro _ a w h;exact h
 | cons o l d=>
  intro c a w h;simp only[Qy8,Z5,Qef]at c;unfold wpList;rw[Qh (by simp[Region.wanted,c.1])];exact .inl (Oper.wp_mono (d c.2) h)
section
variable {P:Program}{n:Nat}{md:Bool}{w0:WM md}{ρ:Env}{Γ:List Assn}{Q:Exit→Act→World→Prop}{K:Act→World→Prop}{rest:List Oper}{ty:TypeId}{pos:String}{af:Array Edge}{gd:Option (Nat×Bool)}{d:Nat}{ds:Option Tmp}
theorem S.region{id:Nat}{l:List Oper}(d:(l.all fun o=>o.guard.isNone)=true)(h:S n w0 ρ Γ (wpL P Q l)):S n w0 ρ Γ ((Code.region id l.toArray false).wp P Q):=
 fun a w e c b=>wp_region_lit (Qj4 l d a w (h a w e c b))
theorem S.Lq(h:S n w0 ρ Γ K):S n w0 ρ Γ (wpL P (Exit.then K Q) []):=h
theorem S.op{o:Oper}(h:S n w0 ρ Γ (Ow P Q o (wpL P Q rest))):S n w0 ρ Γ (wpL P Q (o::rest)):=h
theorem S.q{o:Oper}{v:Value}(h:Qv P n ρ Γ o v)(g:o.dst=some d)(f:Nat.blt d n=true)(k:S n w0 ((d,v)::ρ) Γ K):S n w0 ρ Γ (Ow P Q o K):=by
 intro a w c b e;unfold Ow Oper.wp;rw[h a w c b,Oper.upon_value,g];exact k _ _ (c.put f v) b e
theorem Y8{x:Operand}{v:Value}(b:ev ρ x=some v):Qv P n ρ Γ ⟨ds,.move x,ty,pos,af,gd⟩ v:=fun a w c _=>by simp[execOp,c.ev b]
theorem G9{x:Operand}{v:Value}(b:ev ρ x=some v):Qv P n ρ Γ ⟨ds,.assign x,ty,pos,af,gd⟩ v:=fun a w c _=>by simp[execOp,c.ev b]
theorem Qtg{x:Operand}{p:Addr}(b:ev ρ x=some (.pointer (some p))):Qv P n ρ Γ ⟨ds,.nilCheck x,ty,pos,af,gd⟩ (.pointer (some p)):=fun a w c _=>by simp[execOp,c.ev b]
theorem Qw8{t f:Nat}{x:Operand}{b o c:Nat}(d:Sz P t f=some c)(h:ev ρ x=some (.pointer (some ⟨b,o,none⟩))):Qv P n ρ Γ ⟨ds,.fieldAddr t x f,ty,pos,af,gd⟩ (.pointer (some ⟨b,o+c,none⟩)):=by
 intro a w k _;unfold Sz at d
 split at d
 ·rename_i m e
  split at d
  ·rename_i y g
   split at d
   ·rename_i i j
    split at d
    ·cases d
    ·rename_i l;cases d;simp[execOp,k.ev h,Instr.fieldAt,run_underlying e,g,Instr.sureAddr,fieldPlace,sizeOf,typeInfo,j,l,Addr.add_lit]
   ·cases d
  ·cases d
 ·cases d
theorem Kf{t:TypeId}(h:Fy P t=true)(w:World):(isAgg t).run P w=.ok false w∧(sizeOf t).run P w=.ok 1 w:=by
 unfold Fy at h
 split at h
 ·cases h
 ·cases h
 ·cases h
 ·rename_i c e d b;cases a:P.info? t with
  | none=>simp[a]at h
  | some i=>
   simp only[a,U3,Qsh,Km]at h;refine⟨?_,by simp[sizeOf,typeInfo,a,h]⟩;unfold isAgg;rw[Sem.run_bind,run_underlying b];cases c <;> simp_all
theorem Vq{t:TypeId}{k:Nat}(h:S5 P t=some k)(w:World):(isAgg t).run P w=.ok true w∧(sizeOf t).run P w=.ok k w:=by
 unfold S5 at h
 split at h
 ·rename_i c b;cases a:P.info? t with
  | none=>simp[a]at h
  | some i=>simp[a]at h;exact⟨by simp[isAgg,run_underlying b],by simp[sizeOf,typeInfo,a,h]⟩
 ·rename_i c b;cases a:P.info? t with
  | none=>simp[a]at h
  | some i=>simp[a]at h;exact⟨by simp[isAgg,run_underlying b],by simp[sizeOf,typeInfo,a,h]⟩
 ·cases h
theorem Bg{w:World}{a:Addr}{v:Value}(h:w.cell? a=some v):(load a).run P w=.ok v w:=by simp[load,Sem.run,h]
theorem Gl{t b o:Nat}{x:Operand}{e:TypeId}{c:Array Value}{v:Value}{d:List Assn}(h:Fy P t=true)(f:ev ρ x=some (.pointer (some ⟨b,o,none⟩)))[l:Mh Γ b e c d](g:lg c.toList o=some v) :
  Qv P n ρ Γ ⟨ds,.load t x,ty,pos,af,gd⟩ v:=by
 intro a w m i;have k:w.cell? ⟨b,o,none⟩=some v:=by rw[(l.blk i).cell];exact Qnk g
 have j:(loadVar t ⟨b,o,none⟩).run P w=.ok v w:=by
  unfold loadVar;rw[Sem.run_bind,(Kf h w).1];exact Bg k
 simp only[execOp,m.ev f,Instr.loadAt,Instr.sureAddr,Sem.run_bind,Sem.run_pure,Result.andThen_ok,j]
theorem Qmw{t b o k:Nat}{x:Operand}{e:TypeId}{f:Array Value}{g:List Assn}(c:List Value)(d:S5 P t=some k)(h:ev ρ x=some (.pointer (some ⟨b,o,none⟩)))[r:Mh Γ b e f g](p:c.length=k)(i:Seg f o c) :
  Qv P n ρ Γ ⟨ds,.load t x,ty,pos,af,gd⟩ (.agg c.toArray):=by
 intro a w s m;have q:∀j u,c[j]?=some u→w.cell? ((⟨b,o,none⟩:Addr).add j)=some u:=fun j u l=>by rw[Addr.add_lit,(r.blk m).cell];exact i.get j u l
 have:=run_loadCells_list (P:=P) (w:=w) ⟨b,o,none⟩ c q;rw[p]at this;simp[execOp,s.ev h,Instr.loadAt,Instr.sureAddr,loadVar,(Vq d w).1,(Vq d w).2,this]
theorem F8{x:Operand}{b:Array Value}{i:Nat}{v:Value}(c:ev ρ x=some (.tuple b))(d:lg b.toList i=some v):Qv P n ρ Γ ⟨ds,.extract x i,ty,pos,af,gd⟩ v:=fun a w e _=>by simp[execOp,e.ev c,Instr.extract,Qnk d]
theorem Qgs{fn:Fn}{c d:List Operand}{vs us:List Value}(f:EvL ρ c vs)(e:EvL ρ d us):Qv P n ρ Γ ⟨ds,.makeFunc fn c.toArray d.toArray,ty,pos,af,gd⟩ (.func fn vs.toArray us.toArray):=fun a w b _=>by
 simp[execOp,Instr.makeFunc,f.map b,e.map b]
theorem Fx{op:BinOp}{t c:TypeId}{x y:Operand}{k:IntKind}{p q:Int}{v:Value}(e:ev ρ x=some (.int k p))(d:ev ρ y=some (.int k q))(h:∀w,(binOp op t (.int k p) (.int k q)).run P w=.ok v w):Qv P n ρ Γ ⟨ds,.binOp op t x y c,ty,pos,af,gd⟩ v:=fun a w b _=>by
 simp[execOp,b.ev e,b.ev d,eqGuard,h]
theorem G6{k:IntKind}{n:Int}(h:k.min≤n∧n≤k.max):k.wrap n=n:=by
 obtain⟨b,a⟩:=h;unfold IntKind.wrap;cases k <;> simp[IntKind.min,IntKind.max,IntKind.signed,IntKind.bits]at b a ⊢ <;> omega
theorem Bm{t a:TypeId}{x y:Operand}{k:IntKind}{p q:Int}(c:ev ρ x=some (.int k p))(b:ev ρ y=some (.int k q))(h:k.min≤p+q∧p+q≤k.max):Qv P n ρ Γ ⟨ds,.binOp .add t x y a,ty,pos,af,gd⟩ (.int k (p+q)):=
 Fx c b fun w=>by simp[binOp,Op.intArith,G6 h]
theorem Qkh{t a:TypeId}{x y:Operand}{k:IntKind}{p q:Int}(c:ev ρ x=some (.int k p))(b:ev ρ y=some (.int k q))(h:k.min≤p-q∧p-q≤k.max):Qv P n ρ Γ ⟨ds,.binOp .sub t x y a,ty,pos,af,gd⟩ (.int k (p-q)):=
 Fx c b fun w=>by simp[binOp,Op.intArith,G6 h]
theorem Ll{t a:TypeId}{x y:Operand}{k:IntKind}{p q:Int}(c:ev ρ x=some (.int k p))(b:ev ρ y=some (.int k q))(h:k.min≤p*q∧p*q≤k.max):Qv P n ρ Γ ⟨ds,.binOp .mul t x y a,ty,pos,af,gd⟩ (.int k (p*q)):=
 Fx c b fun w=>by simp[binOp,Op.intArith,G6 h]
theorem Q4e{t a:TypeId}{x y:Operand}{k:IntKind}{p q:Int}(c:ev ρ x=some (.int k p))(b:ev ρ y=some (.int k q)):Qv P n ρ Γ ⟨ds,.binOp .add t x y a,ty,pos,af,gd⟩ (.int k (k.wrap (p+q))):=
 Fx c b fun w=>by simp[binOp,Op.intArith]
theorem Zo1{t a:TypeId}{x y:Operand}{k:IntKind}{p q:Int}(c:ev ρ x=some (.int k p))(b:ev ρ y=some (.int k q)):Qv P n ρ Γ ⟨ds,.binOp .eql t x y a,ty,pos,af,gd⟩ (.bool (decide (p=q))):=
 Fx c b fun w=>by rw[show decide (p=q)=(p==q) from rfl];simp[binOp,Op.intCmp]
theorem Zk4{t a:TypeId}{x y:Operand}{k:IntKind}{p q:Int}(c:ev ρ x=some (.int k p))(b:ev ρ y=some (.int k q)):Qv P n ρ Γ ⟨ds,.binOp .neq t x y a,ty,pos,af,gd⟩ (.bool (decide (p≠q))):=
 Fx c b fun w=>by rw[show decide (p≠q)=(p != q) from by simp[bne];rfl];simp[binOp,Op.intCmp]
theorem Zox{t a:TypeId}{x y:Operand}{k:IntKind}{p q:Int}(c:ev ρ x=some (.int k p))(b:ev ρ y=some (.int k q)):Qv P n ρ Γ ⟨ds,.binOp .lss t x y a,ty,pos,af,gd⟩ (.bool (decide (p<q))):=
 Fx c b fun w=>by simp[binOp,Op.intCmp]
theorem Zoy{t a:TypeId}{x y:Operand}{k:IntKind}{p q:Int}(c:ev ρ x=some (.int k p))(b:ev ρ y=some (.int k q)):Qv P n ρ Γ ⟨ds,.binOp .leq t x y a,ty,pos,af,gd⟩ (.bool (decide (p≤q))):=
 Fx c b fun w=>by simp[binOp,Op.intCmp]
theorem Zoz{t a:TypeId}{x y:Operand}{k:IntKind}{p q:Int}(c:ev ρ x=some (.int k p))(b:ev ρ y=some (.int k q)):Qv P n ρ Γ ⟨ds,.binOp .gtr t x y a,ty,pos,af,gd⟩ (.bool (decide (q<p))):=
 Fx c b fun w=>by simp[binOp,Op.intCmp]
theorem Zo0{t a:TypeId}{x y:Operand}{k:IntKind}{p q:Int}(c:ev ρ x=some (.int k p))(b:ev ρ y=some (.int k q)):Qv P n ρ Γ ⟨ds,.binOp .geq t x y a,ty,pos,af,gd⟩ (.bool (decide (q≤p))):=
 Fx c b fun w=>by simp[binOp,Op.intCmp]
theorem Rt{t a:TypeId}{x y:Operand}{k:IntKind}{p q:Int}(c:ev ρ x=some (.int k p))(b:ev ρ y=some (.int k q))(h:0≤p∧0<q):Qv P n ρ Γ ⟨ds,.binOp .rem t x y a,ty,pos,af,gd⟩ (.int k (p % q)):=
 Fx c b fun w=>by
  have h0:q≠0:=Qb
  simp[binOp,Op.intDiv,h0,Int.tmod_eq_emod_of_nonneg h.1]
theorem Qdz{t a:TypeId}{x y:Operand}{k:IntKind}{p q:Int}(c:ev ρ x=some (.int k p))(b:ev ρ y=some (.int k q))(h:0≤p∧0<q)(d:k.min≤p / q∧p / q≤k.max):Qv P n ρ Γ ⟨ds,.binOp .quo t x y a,ty,pos,af,gd⟩ (.int k (p / q)):=
 Fx c b fun w=>by
  have h0:q≠0:=Qb
  simp[binOp,Op.intDiv,h0,Int.tdiv_eq_ediv_of_nonneg h.1,G6 d]
theorem Qw6{t:TypeId}{x:Operand}{b:Bool}(c:ev ρ x=some (.bool b)):Qv P n ρ Γ ⟨ds,.unOp .not t x,ty,pos,af,gd⟩ (.bool (!b)):=fun a w d _=>by simp[execOp,d.ev c,Op.unary]
theorem Vu{s t:TypeId}{x:Operand}{k j:IntKind}{p:Int}(b:Qjo P t=some k)(i:(P.underlying s).isSome=true)(d:ev ρ x=some (.int j p))(h:k.min≤p∧p≤k.max):Qv P n ρ Γ ⟨ds,.convert s t x,ty,pos,af,gd⟩ (.int k p):=fun a w f _=>by
 unfold Qjo at b
 split at b
 ·rename_i l e;cases b;obtain⟨g,c⟩:=B2.1 i;simp[execOp,f.ev d,convert,run_underlying c,run_underlying e,Conv.intToInt,G6 h]
 ·cases b
theorem Qw9{s t:TypeId}{x:Operand}{k j:IntKind}{p:Int}(b:Qjo P t=some k)(h:(P.underlying s).isSome=true)(d:ev ρ x=some (.int j p)):Qv P n ρ Γ ⟨ds,.convert s t x,ty,pos,af,gd⟩ (.int k (k.wrap p)):=fun a w f _=>by
 unfold Qjo at b
 split at b
 ·rename_i i e;cases b;obtain⟨g,c⟩:=B2.1 h;simp[execOp,f.ev d,convert,run_underlying c,run_underlying e,Conv.intToInt]
 ·cases b
theorem Qb5{op:BinOp}{t c:TypeId}{x y:Operand}{p q v:Value}(e:ev ρ x=some p)(d:ev ρ y=some q)(f:∀w,(eqGuard op t x y p q).run P w=.ok () w)(h:∀w,(binOp op t p q).run P w=.ok v w):Qv P n ρ Γ ⟨ds,.binOp op t x y c,ty,pos,af,gd⟩ v:=fun a w b _=>by
 simp only[execOp,b.ev e,b.ev d,Sem.run_bind,f,h,Result.andThen_ok,Sem.run_pure]
theorem Zk3{t a:TypeId}{x y:Operand}{p q:Bool}(d:P.underlying t=some .bool)(c:ev ρ x=some (.bool p))(b:ev ρ y=some (.bool q)):Qv P n ρ Γ ⟨ds,.binOp .neq t x y a,ty,pos,af,gd⟩ (.bool (p != q)):=
 Qb5 c b (fun w=>by simp[eqGuard]) (fun w=>run_neq_bool (w:=w) t p q d)
theorem Qg0{t e:TypeId}(a:P.underlying t=some (.pointer e)):P.underlying t=some (.pointer (P.pointee t)):=by rw[a];simp[Program.pointee,a]
theorem Zk6{t a e:TypeId}{x:Operand}{p:Option Addr}(d:P.underlying t=some (.pointer e))(c:ev ρ x=some (.pointer p)){y:Operand}(b:ev ρ y=some (.pointer none)):Qv P n ρ Γ ⟨ds,.binOp .eql t x y a,ty,pos,af,gd⟩ (.bool p.isNone):=
 Qb5 c b (fun w=>by simp[eqGuard]) (fun w=>run_eql_pointer_nil (w:=w) t p (Qg0 d))
theorem Zk2{t a e:TypeId}{x:Operand}{p:Option Addr}(d:P.underlying t=some (.pointer e))(c:ev ρ x=some (.pointer p)){y:Operand}(b:ev ρ y=some (.pointer none)):Qv P n ρ Γ ⟨ds,.binOp .neq t x y a,ty,pos,af,gd⟩ (.bool (!p.isNone)):=
 Qb5 c b (fun w=>by simp[eqGuard]) (fun w=>run_neq_pointer_nil (w:=w) t p (Qg0 d))
theorem Zhe{t d e:TypeId}{x:Operand}{p:Option Addr}{l c a b:Nat}(h:P.underlying t=some (.slice e))(g:ev ρ x=some (.slice p l c)){y:Operand}(f:ev ρ y=some (.slice none a b)):Qv P n ρ Γ ⟨ds,.binOp .eql t x y d,ty,pos,af,gd⟩ (.bool p.isNone):=
 Qb5 g f (fun w=>by simp[eqGuard]) (fun w=>Lib.run_eql_slice_nil w _ _ p l c a b h)
theorem Zk5{x:Operand}{t e:TypeId}{p:Option Addr}{l c:Nat}(d:P.underlying t=some (.slice e))(b:ev ρ x=some (.slice p l c)):Qv P n ρ Γ ⟨ds,.call {callee:=.builtin .len,args:=#[x],argTypes:=#[t]},ty,pos,af,gd⟩ (.int .i64 l):=fun a w f _=>by
 simp[execOp,f.ev b,resolve,invoke,builtin,Builtin.len_,run_underlying d,goInt]
theorem Zbk{t:TypeId}{x y:Operand}{e g b o l c:Nat}{k:IntKind}{i:Int}(d:Nw P t=some (e,g))(q:ev ρ x=some (.slice (some ⟨b,o,none⟩) l c))(p:ev ρ y=some (.int k i))(h:0≤i∧i<l):Qv P n ρ Γ ⟨ds,.indexAddr t x y,ty,pos,af,gd⟩ (.pointer (some ⟨b,o+i.toNat*g,none⟩)):=fun a w j _=>by
 unfold Nw at d
 split at d
 ·rename_i s r;cases f:P.info? s with
  | none=>simp[f]at d
  | some m=>
   simp only[f,U3,Km,Hx]at d;obtain⟨rfl,rfl⟩:=d;simp[execOp,j.ev q,j.ev p,Instr.indexAt,asIntOf,run_underlying r,h.1,h.2,sizeOf,typeInfo,f,Addr.add_lit]
 ·cases d
theorem Ln{t:TypeId}{x y:Operand}{m e b o:Nat}{k:IntKind}{i:Int}(c:Q1u P t=some (m,e))(l:ev ρ x=some (.pointer (some ⟨b,o,none⟩)))(j:ev ρ y=some (.int k i))(h:0≤i∧i<m):Qv P n ρ Γ ⟨ds,.indexAddr t x y,ty,pos,af,gd⟩ (.pointer (some ⟨b,o+i.toNat*e,none⟩)):=fun a w f _=>by
 unfold Q1u at c
 split at c
 ·rename_i r q p;cases d:P.info? q with
  | none=>simp[d]at c
  | some g=>
   simp only[d,U3,Km,Hx]at c;obtain⟨rfl,rfl⟩:=c;simp[execOp,f.ev l,f.ev j,Instr.indexAt,asIntOf,run_underlying p,h.1,h.2,sizeOf,typeInfo,d,Addr.add_lit,Instr.sureAddr]
 ·cases c
theorem S.alloc{t:TypeId}{f:List Value}(e:Uq P t=some f)(m:Nat.blt d n=true)(k:∀b,S n w0 ((d,.pointer (some ⟨b,0,none⟩))::ρ) (blk b t f.toArray::Γ) K):S n w0 ρ Γ (Ow P Q ⟨some d,.alloc t,ty,pos,af,gd⟩ K):=by
 intro a w o j h;unfold Uq at e;cases g:P.info? t with
 | none=>simp[g]at e
 | some i=>
  cases c:i.zero with
  | none=>simp[g,c]at e
  | some z=>
   simp only[g,c,Option.bind_some,U3,Km]at e
   have l:(execOp a.eval ⟨some d,.alloc t,ty,pos,af,gd⟩).run P w=.ok (.value (.pointer (some ⟨w.heap.size,0,none⟩))) (w.alloc (.cells f.toArray t)):=by
    have:f.toArray=z.cells:=by rw[←e]
    simp[execOp,Instr.alloc,zeroValue,typeInfo,g,c,newVar,newRow,this]
   unfold Ow Oper.wp;rw[l,Oper.upon_value];exact k w.heap.size _ _ (o.put m _) (j.alloc _ _) (h.alloc _)
theorem S.box{t:TypeId}{x:Operand}{v:Value}{cs:List Value}(e:ev ρ x=some v)(i:v.cells.toList=cs)(h:Nat.blt d n=true)(k:∀b,S n w0 ((d,.pointer (some ⟨b,0,none⟩))::ρ) (blk b t cs.toArray::Γ) K):S n w0 ρ Γ (Ow P Q ⟨some d,.box t x,ty,pos,af,gd⟩ K):=by
 intro a w c f j
 have g:(execOp a.eval ⟨some d,.box t x,ty,pos,af,gd⟩).run P w=.ok (.value (.pointer (some ⟨w.heap.size,0,none⟩))) (w.alloc (.cells cs.toArray t)):=by
  have:cs.toArray=v.cells:=by rw[←i]
  simp[execOp,c.ev e,Instr.box,newVar,newRow,this]
 unfold Ow Oper.wp;rw[g,Oper.upon_value];exact k w.heap.size _ _ (c.put h _) (f.alloc _ _) (j.alloc _)
theorem Jt.Fa{ρ:Env}{a:Act}(h:Jt n ρ a)(v:Value):Jt n ρ (a.put none v):=h
theorem S.store{t b o:Nat}{x y:Operand}{e:TypeId}{c:Array Value}{v:Value}{g:List Assn}{cs':List Value}(q:Fy P t=true)(p:ev ρ x=some (.pointer (some ⟨b,o,none⟩)))(m:ev ρ y=some v)(h:v.oneCell'=true)[j:Mh Γ b e c g](s:Nat.blt o c.size=true)(u:c.toList.set o v=cs')
  (k:S n w0 ρ (blk b e cs'.toArray::g) K):S n w0 ρ Γ (Ow P Q ⟨none,.store t x y,ty,pos,af,gd⟩ K):=by
 intro a w f i B;have l:=j.blk i;have d:o<c.size:=by have:=s;simp[Nat.blt]at this;omega
 have C:w.cell? ⟨b,o,none⟩=some c[o]:=by rw[l.cell];simp[d]
 have A:v.cells=#[v]:=by cases v <;> first|rfl|simp[Value.oneCell']at h
 have z:(Go.store (⟨b,o,none⟩:Addr) v).run P w=.ok () (w.setCell ⟨b,o,none⟩ v):=by rw[run_store P w _ v _ h,C];simp[l.frozen]
 have r:(execOp a.eval ⟨none,.store t x y,ty,pos,af,gd⟩).run P w=.ok .skip (w.setCell ⟨b,o,none⟩ v):=by
  have h0:(⟨b,o,none⟩:Addr).add 0=⟨b,o,none⟩:=by simp[Addr.add]
  simp[execOp,f.ev p,f.ev m,Instr.storeAt,Instr.sureAddr,storeVar,(Kf q w).2,A,storeCells];rw[h0,z];rfl
 unfold Ow Oper.wp;rw[r,Oper.upon_skip];refine k _ _ (f.Fa _) ?_ (B.setCell _ _);have:=(i.Qs j.Qs).setCell o v;rw[←u];have e1:(c.toList.set o v).toArray=c.setIfInBounds o v:=by rw[←Zgj]
 rw[e1];exact this
def Ee(l:List Value):Bool:=l.all (·.oneCell')
theorem Sat.setRow{w:World}{Γ:List Assn}{b:Nat}{e:TypeId}{f:Array Value}(h:Sat w (blk b e f::Γ))(a:Array Value):Sat (w.setRow b a) (blk b e a::Γ):=by
 refine h.upd fun x l p=>⟨HL.one b (.cells a e),HL.one_le (setRow_heap w b f _ e _ (l b _ p)),HL.Vf _ _,fun c d _=>?_⟩;have g:c≠b:=fun e=>by subst e;rw[p]at d;cases d
 exact⟨HL.Kr g,setRow_other w b c _ g⟩
theorem S.Qs3{t b o k:Nat}{x y:Operand}{e:TypeId}{d:Array Value}{c:Array Value}{i:List Assn}{cs':List Value}(r:S5 P t=some k)(p:ev ρ x=some (.pointer (some ⟨b,o,none⟩)))(m:ev ρ y=some (.agg c))(z:c.size=k)(C:Ee c.toList=true)[l:Mh Γ b e d i](u:Nat.ble (o+c.size) d.size=true)
  (A:d.toList.take o++c.toList++d.toList.drop (o+c.size)=cs') (kk:S n w0 ρ (blk b e cs'.toArray::i) K):S n w0 ρ Γ (Ow P Q ⟨none,.store t x y,ty,pos,af,gd⟩ K):=by
 intro a w g j D;have B:=l.blk j;have f:o+c.size≤d.size:=Qbj u;have h:=run_storeCells_at P b o e c.toList 0 d w B (by simpa using f) (fun v q=>List.all_eq_true.1 C v q)
 have s:(execOp a.eval ⟨none,.store t x y,ty,pos,af,gd⟩).run P w=.ok .skip (w.setRow b cs'.toArray):=by
  rw[←A];simp only[Qbl,Mk]at h;simp[execOp,g.ev p,g.ev m,Instr.storeAt,Instr.sureAddr,storeVar,(Vq r w).2,Value.cells,z]at h ⊢;rw[h];simp
 unfold Ow Oper.wp;rw[s,Oper.upon_skip];exact kk _ _ (g.Fa _) ((j.Qs l.Qs).setRow _) (D.trans ⟨rfl,rfl,rfl,by simp[World.setRow],Q1 _⟩)
theorem Qkc{f:FuncId}{vs:List Value}{c:Call}{a:Act}{ds:Option Tmp}(d:Jj P f=true)(i:a.eval (match c.callee with|.value x=>x|_=>.const undef)=.func (.func f) #[] #[])(j:∃x,c.callee=.value x)(b:c.args.map a.eval=vs.toArray)(w:World) :
  (execOp a.eval ⟨ds,.call c,ty,pos,af,gd⟩).run P w=.ok (.enter f vs.toArray) w:=by
 obtain⟨x,h⟩:=j;simp only[h]at i;unfold Jj at d
 split at d
 ·rename_i fn e;simp only[Z5,Qbi,Mj]at d;obtain⟨m,l⟩:=d;have g:¬fn.body=none:=by cases k:fn.body <;> simp[k]at l ⊢
  simp[execOp,resolve,h,i,Deferred.ofValue,invoke,b,callFunc,e,m,g]
 ·cases d
theorem S.call{f:FuncId}{xs:List Operand}{h:Array TypeId}{vs:List Value}{pre j:List Assn}{post:List Assn→Value→List Assn→Prop}(x:Jj P f=true)(g:EvL ρ xs vs)
  (r:Spec P f vs pre post md) [t:Picks pre Γ j] (u:Nat.blt d n=true)
  (k:∀v i,post j v i→S n w0 ((d,v)::ρ) i K):S n w0 ρ Γ (Ow P Q ⟨some d,.call {callee:=.value (.func f),args:=xs.toArray,argTypes:=h},ty,pos,af,gd⟩ K):=by
 intro a w p o q;have s:=Qkc (ty:=ty) (pos:=pos) (af:=af) (gd:=gd) (c:={callee:=.value (.func f),args:=xs.toArray,argTypes:=h}) (a:=a) (ds:=some d) (vs:=vs) x rfl ⟨_,rfl⟩ (by simp[g.map p]) w;unfold Ow Oper.wp;rw[s,Oper.upon_enter];refine(r j w (o.Qs t.Qs)).mono ?_;rintro e y ⟨v,i,rfl,m,b,l⟩;exact k v i m _ _ (p.put u v) b (q.Qs1 l)
end
def Lod(P:Program)(Γ:List Assn)(t:TypeId)(b o:Nat)(v:Value):Prop:=∀w,Sat w Γ→(loadVar t ⟨b,o,none⟩).run P w=.ok v w
theorem Zcb{P:Program}{Γ f:List Assn}{t b o k:Nat}{e:TypeId}{d:Array Value}(a:List Value)(c:S5 P t=some k)[n:Mh Γ b e d f](l:a.length=k)(g:Seg d o a):Lod P Γ t b o (.agg a.toArray):=by
 intro w i;have m:∀j u,a[j]?=some u→w.cell? ((⟨b,o,none⟩:Addr).add j)=some u:=fun j u h=>by rw[Addr.add_lit,(n.blk i).cell];exact g.get j u h
 have:=run_loadCells_list (P:=P) (w:=w) ⟨b,o,none⟩ a m;rw[l]at this;simp[loadVar,(Vq c w).1,(Vq c w).2,this]
def Qbf(P:Program)(ρ:Env)(Γ:List Assn):List ResultVar→List Value→Prop
 | [],[]=>True
 | .tmp t::rs,v::a=>Env.get ρ t=some v∧Qbf P ρ Γ rs a
 | .cell t ty::rs,v::a=>(∃b o,Env.get ρ t=some (.pointer (some ⟨b,o,none⟩))∧Lod P Γ ty b o v)∧Qbf P ρ Γ rs a
 | _,_=>False
def Qb3(a:Act):ResultVar→Sem Value
 | .tmp t=>pure (a.tmps.getD t undef)
 | .cell x t=>do loadVar t (←asAddr (a.tmps.getD x undef))
theorem Qbf.run{P:Program}{n:Nat}{ρ:Env}{Γ:List Assn}{a:Act}{w:World}(e:Jt n ρ a)(f:Sat w Γ):∀ {rs:List ResultVar} {d:List Value},Qbf P ρ Γ rs d →
  (rs.mapM (Qb3 a)).run P w=Result.ok d w
 | [],[],_=>by simp
 | .tmp t::rs,v::d,h=>by
  have:=Qbf.run e f h.2;have g:=e.get _ _ h.1;have c:(Qb3 a (.tmp t)).run P w=.ok v w:=by simp only[Qb3,Sem.run_pure,g]
  simp only[List.mapM_cons,Sem.run_bind,Sem.run_pure,Result.andThen_ok,this,c]
 | .cell t ty::rs,v::d,h=>by
  obtain⟨⟨b,o,c,j⟩,i⟩:=h;have:=Qbf.run e f i;have g:=e.get _ _ c;have c:(Qb3 a (.cell t ty)).run P w=.ok v w:=by simp only[Qb3,g,asAddr,Sem.run_bind,Sem.run_pure,Result.andThen_ok,j w f]
  simp only[List.mapM_cons,Sem.run_bind,Sem.run_pure,Result.andThen_ok,this,c]
 | [],_::_,h=>h.elim
 | .tmp _::_,[],h=>h.elim
 | .cell _ _::_,[],h=>h.elim
def Vt:List Value→Value
 | [v]=>v
 | a=>.tuple a.toArray
section
variable {P:Program}{n:Nat}{md:Bool}{w0:WM md}{ρ:Env}{Γ:List Assn}{Q:Exit→Act→World→Prop}{K:Act→World→Prop}{rest:List Oper}{ty:TypeId}{pos:String}{af:Array Edge}{gd:Option (Nat×Bool)}{d:Nat}{ds:Option Tmp}
theorem Li{fn:Func}{rs:List ResultVar}{b:List Value}{a:Act}{w:World}(f:fn.results=rs.toArray)(g:Qbf P ρ Γ rs b)(i:Jt n ρ a)(d:Sat w Γ):(results fn a.tmps).run P w=.ok (Vt b) w:=by
 have h:=g.run i d
 have e:results fn a.tmps=(do
   let c ←fn.results.mapM (Qb3 a)
   pure (if h:c.size=1 then c[0] else .tuple c)):=by
  unfold results
  congr 1
 rw[e,f];simp only[List.mapM_toArray,Sem.run_bind];rw[←bind_pure_comp,Sem.run_bind];rw[h];simp only[Result.andThen_ok,Sem.run_pure,Result.ok.injEq,R6];unfold Vt
 match b with
 | []=>simp
 | [v]=>simp
 | _::_::_=>simp
theorem S.fin{fn:Func}{post:List Assn→Value→List Assn→Prop}{b c:List Assn}{rs:List ResultVar}{d:List Value}(h:fn.results=rs.toArray)(j:Qbf P ρ Γ rs d)(i:post b (Vt d) c)(k:Ent Γ c):S n w0 ρ Γ (Fin P fn post b w0 .ret):=by
 intro a w f e g;exact⟨f.defers,_,Li h j f e,_,c,rfl,i,e.Qs k,g⟩
theorem S.Zrm{fn:Func}{post:List Assn→Value→List Assn→Prop}{b c:List Assn}{rs:List ResultVar}{d:List Value}(h:fn.results=rs.toArray)(j:Qbf P ρ Γ rs d)(i:post b (Vt d) c)(k:Ent Γ c):S n w0 ρ Γ (Fin P fn post b w0 .normal):=by
 intro a w f e g;exact⟨f.defers,_,Li h j f e,_,c,rfl,i,e.Qs k,g⟩
def Qid(place:Nat→Option (Nat×Nat))(cells:List Value):List (Nat×Value)→Option (List Value)
 | []=>some cells
 | (i,v)::rest=>match place i with
  | none=>none
  | some (off,size)=>bif Nat.beq v.cells.toList.length size&&Nat.ble (off+v.cells.toList.length) cells.length then Qid place (cells.take off++(v.cells.toList++cells.drop (off+v.cells.toList.length))) rest else none
theorem Qun(off:Nat):∀(b:List Value) (k:Nat) (c:List Value),off+k+b.length≤c.length →
  ((b.zipIdx k).foldl (fun (a:Array Value) (x:Value×Nat)=>a.setIfInBounds (off+x.2) x.1) c.toArray).toList=c.take (off+k)++(b++c.drop (off+k+b.length)):=by
 intro b;induction b with
 | nil=>intro k c _;simp
 | cons v b d=>
  intro k c h;simp only[Ka]at h;simp only[List.zipIdx_cons,Mi,List.setIfInBounds_toArray];rw[d (k+1) (c.set (off+k) v) (by simp;omega)];have e1:off+(k+1)=off+k+1:=Qb
  rw[e1,List.take_set,Zgh (show off+k<c.length by omega),Qsg _ _ (by rw[V9];omega),List.drop_set_of_lt Qb];simp only[V9,Ka,Wb];have e2:off+k-min (off+k) c.length=0:=by rw[Ny Qb];omega
  rw[e2];simp only[Qlw,Nx,Gf,List.append_cancel_left_eq,Hw,B3];rw[show off+k+1+b.length=off+k+(b.length+1) by omega]
theorem Sy(place:Nat→Option (Nat×Nat)):∀(parts:List (Nat×Value)) (cells:List Value) (r:List Value),Qid place cells parts=some r→Instr.fill place cells.toArray parts=some r.toArray:=by
 intro parts;induction parts with
 | nil=>intro cells r h;unfold Qid at h;cases h;rfl
 | cons p parts d=>
  intro cells r h;obtain⟨i,v⟩:=p;unfold Qid at h;unfold Instr.fill;cases b:place i with
  | none=>rw[b]at h;cases h
  | some q=>
   obtain⟨off,size⟩:=q;rw[b]at h;simp only at h ⊢;cases a:(Nat.beq v.cells.toList.length size&&Nat.ble (off+v.cells.toList.length) cells.length) with
   | false=>rw[a]at h;cases h
   | true=>
    rw[a]at h;simp only[cond_true]at h;simp only[Z5]at a;have e1:=Qbk a.1;have e2:=Qbj a.2;simp only[Mk]at e1 e2;rw[Qe (by simp[e1];omega)];have e:=Qun off v.cells.toList 0 cells (by simpa using e2)
    have:(v.cells.zipIdx.foldl (fun f (x:Value×Nat)=>f.setIfInBounds (off+x.2) x.1) cells.toArray)=(cells.take off++(v.cells.toList++cells.drop (off+v.cells.toList.length))).toArray:=by
     apply Array.toList_inj.1;rw[←Array.foldl_toList,Array.toList_zipIdx,e];simp
    have c:=d _ _ h;rw[←this]at c;exact c
def EvP(ρ:Env):List (Nat×Operand)→List (Nat×Value)→Prop
 | [],[]=>True
 | (i,x)::xs,(j,v)::a=>(i=j∧ev ρ x=some v)∧EvP ρ xs a
 | _,_=>False
theorem EvP.map{ρ:Env}{a:Act}(c:Jt n ρ a):∀ {xs:List (Nat×Operand)} {b:List (Nat×Value)},EvP ρ xs b→xs.map (fun (i,x)=>(i,a.eval x))=b
 | [],[],_=>rfl
 | (i,x)::_,(j,v)::_,h=>by
  obtain⟨⟨rfl,e⟩,d⟩:=h;simp only[Z7,c.ev e,EvP.map c d]
 | [],_::_,h=>h.elim
 | _::_,[],h=>h.elim
theorem Ye{t:TypeId}{xs:List (Nat×Operand)}{pvs:List (Nat×Value)}{h:List Value}{b:List (Nat×Nat)}(d:List Value)(e:Uq P t=some h)(g:Ul P t=some b)(q:EvP ρ xs pvs)(p:Qid (fun i=>b[i]?) h pvs=some d) :
  Qv P n ρ Γ ⟨ds,.build t xs.toArray,ty,pos,af,gd⟩ (.agg d.toArray):=by
 intro a w s _
 have r:P.built t pvs=some d.toArray:=by
  unfold Uq at e;unfold Ul at g;unfold Program.built;cases k:P.info? t with
  | none=>simp[k]at e
  | some i=>
   cases c:i.zero with
   | none=>simp[k,c]at e
   | some z=>
    simp only[k,c,Option.bind_some,U3,Km]at e;cases l:P.underlying t with
    | none=>simp[l]at g
    | some v=>
     cases v <;> simp[l]at g
     case struct u=>
      simp only[c];have j:List.mapM (fun f=>(P.info? f.type).map fun i=>(f.offset,i.size)) u.toList=some b:=by simpa using g
      rw[j];have:=Sy _ pvs h d p;rw[←e]at this
      simpa using this
 have m:=run_build (P:=P) w t pvs.toArray d.toArray r
 have o:(xs.toArray.map fun x:Nat×Operand=>(x.1,a.eval x.2))=pvs.toArray:=by
  have:=q.map s
  simpa using congrArg List.toArray this
 simp only[execOp,o,Sem.run_bind,m,Result.andThen_ok,Sem.run_pure]
theorem Q4b{t f:Nat}{x:Operand}{c:Array Value}{v:Value}{d:Array Field}{b:Field}(h:P.underlying t=some (.struct d))(j:d[f]?=some b)(i:Fy P b.type=true)(e:ev ρ x=some (.agg c))(g:c[b.offset]?=some v):Qv P n ρ Γ ⟨ds,.field t x f,ty,pos,af,gd⟩ v:=by
 intro a w k _;simp[execOp,k.ev e,Instr.field,run_underlying h,j,asAgg,part,(Kf i w).1,g]
structure SV where
 a:Option Addr
 n:Nat
 c:Nat
abbrev SV.v(s:SV):Value:=.slice s.a s.n s.c
abbrev SV.nil:SV:=⟨none,0,0⟩
def own(s:SV)(e:TypeId)(c:Nat)(xs:List Value):Assn:=fun h=>xs.length=s.n*c∧((s.a=none∧s.n=0∧s.c=0) ∨
 ∃b off a,s.a=some ⟨b,off,none⟩∧h b=some (.cells a e (0,0))∧s.n≤s.c∧s.c≤maxLen∧off+s.c*c≤a.size∧(a.toList.drop off).take (s.n*c)=xs)
theorem own.mono{s:SV}{e:TypeId}{c:Nat}{xs:List Value}{h k:HL}(p:own s e c xs h)(l:HL.le h k):own s e c xs k:=
 ⟨p.1,p.2.imp id fun⟨b,off,a,f,d,r⟩=>⟨b,off,a,f,l b _ d,r⟩⟩
theorem own.Qj7{s:SV}{e:TypeId}{g:Nat}{xs:List Value}{w:World}(p:own s e g xs (HL.of w)):Own w e g s.v s.n xs (s.a.map (·.block)):=by
 refine⟨p.1,?_⟩
 rcases p.2 with ⟨a,c,d⟩|⟨b,off,f,a,c,d,j,i,h⟩
 ·exact .inl ⟨by simp[SV.v,a,c,d],c,by simp[a]⟩
 ·exact .inr ⟨b,off,s.c,f,by simp[SV.v,a],by simp[a],c,d,j,i,h⟩
theorem own.Q4y{s:SV}{e:TypeId}{h:Nat}{xs:List Value}{w:World}{g:Option Nat}(p:Own w e h s.v s.n xs g):g=s.a.map (·.block)∧own s e h xs (HL.of w):=by
 obtain⟨n,sn,sc⟩:=s
 rcases p.2 with ⟨a,i,d⟩|⟨b,off,c,f,a,i,d,m,l,k,j⟩
 ·simp only[SV.v,Value.slice.injEq]at a;obtain⟨rfl,rfl,rfl⟩:=a;exact⟨by simp[d],p.1,.inl ⟨rfl,rfl,rfl⟩⟩
 ·simp only[SV.v,Value.slice.injEq]at a;obtain⟨rfl,_,rfl⟩:=a;exact⟨by simp[i],p.1,.inr ⟨b,off,f,rfl,d,m,l,k,j⟩⟩
theorem own.Zpc(e:TypeId)(a:Nat)(h:HL):own SV.nil e a [] h:=⟨Q2,.inl ⟨rfl,rfl,rfl⟩⟩
theorem Ent.Xb(e:TypeId)(a:Nat):Ent Γ (own SV.nil e a []::Γ):=fun h b=>⟨HL.emp,h,HL.J2 _,HL.Hm _,HL.le.refl _,own.Zpc _ _ _,b⟩
class Qsb(Γ:List Assn)(b:Nat)(off m c:outParam Nat)(e:outParam TypeId)(sz:outParam Nat)(xs:outParam (List Value))(Δ:outParam (List Assn)):Prop where
 Qs:Ent Γ (own ⟨some ⟨b,off,none⟩,m,c⟩ e sz xs::Δ)
theorem Qsb.Tq{d:List Assn}{b off m c:Nat}{e:TypeId}{a:Nat}{xs:List Value}(h:Qsb Γ b off m c e a xs d){w:World}(f:Sat w Γ):Own w e a (.slice (some ⟨b,off,none⟩) m c) m xs (some b):=by
 obtain⟨x,l,p⟩:=(f.Qs h.Qs).head;exact(p.mono l).Qj7
theorem Qsb.cell{g:List Assn}{b off m c:Nat}{e:TypeId}{i:Nat}{xs:List Value}(h:Qsb Γ b off m c e i xs g){w:World}(k:Sat w Γ){j:Nat}{v:Value}(f:xs[j]?=some v):w.cell? ⟨b,off+j,none⟩=some v:=by
 have:=h.Tq k
 rcases this.cases with ⟨a,_⟩|⟨o,d,n,a,_,_,_,_,l,_⟩
 ·cases a
 ·simp only[Value.slice.injEq,Km,Addr.mk.injEq,R6,B3]at a;obtain⟨⟨rfl,rfl⟩,rfl⟩:=a;rw[l j (by rw[←this.1];exact(Yz.1 f).1)];exact f
theorem Zbj{t b o off m c:Nat}{x:Operand}{e:TypeId}{f:Nat}{xs:List Value}{v:Value}{d:List Assn}(j:Nat)(i:Fy P t=true)(g:ev ρ x=some (.pointer (some ⟨b,o,none⟩)))[r:Qsb Γ b off m c e f xs d](l:o=off+j)(h:xs[j]?=some v) :
  Qv P n ρ Γ ⟨ds,.load t x,ty,pos,af,gd⟩ v:=by
 intro a w s k;subst l;have q:=r.cell k h
 have p:(loadVar t ⟨b,off+j,none⟩).run P w=.ok v w:=by
  unfold loadVar;rw[Sem.run_bind,(Kf i w).1];exact Bg q
 simp only[execOp,s.ev g,Instr.loadAt,Instr.sureAddr,Sem.run_bind,Sem.run_pure,Result.andThen_ok,p]
theorem Q38{t b o off m c k:Nat}{x:Operand}{e:TypeId}{h:Nat}{xs:List Value}{g:List Assn}(j:Nat)(d:List Value)(f:S5 P t=some k)(l:ev ρ x=some (.pointer (some ⟨b,o,none⟩)))[z:Qsb Γ b off m c e h xs g](s:o=off+j)(v:d.length=k)(p:∀i u,d[i]?=some u→xs[j+i]?=some u) :
  Qv P n ρ Γ ⟨ds,.load t x,ty,pos,af,gd⟩ (.agg d.toArray):=by
 intro a w A r;subst s;have y:∀i u,d[i]?=some u→w.cell? ((⟨b,off+j,none⟩:Addr).add i)=some u:=fun i u q=>by rw[Addr.add_lit,Xr];exact z.cell r (p i u q)
 have:=run_loadCells_list (P:=P) (w:=w) ⟨b,off+j,none⟩ d y;rw[v]at this;simp[execOp,A.ev l,Instr.loadAt,Instr.sureAddr,loadVar,(Vq f w).1,(Vq f w).2,this]
theorem S.Zgu{t b o off m c:Nat}{x y:Operand}{e:TypeId}{G:Nat}{xs:List Value}{v:Value}{F:List Assn}(j:Nat)(T:Fy P t=true)(R:ev ρ x=some (.pointer (some ⟨b,o,none⟩)))(O:ev ρ y=some v)(I:v.oneCell'=true)[C:Qsb Γ b off m c e G xs F](V:o=off+j)(W:j<xs.length)
  (k:S n w0 ρ (own ⟨some ⟨b,off,none⟩,m,c⟩ e G (xs.set j v)::F) K):S n w0 ρ Γ (Ow P Q ⟨none,.store t x y,ty,pos,af,gd⟩ K):=by
 intro a w D u Nu;subst V;have J:=C.Tq u;have Hd:=C.cell u (Ju W);have Sr:v.cells=#[v]:=by cases v <;> first|rfl|simp[Value.oneCell']at I
 have A:w.frozen? ⟨b,off+j,none⟩=false:=by
  rcases J.cases with ⟨d,_⟩|⟨M,g,c',d,_,_,_,_,_,r⟩
  ·cases d
  ·simp only[Value.slice.injEq,Km,Addr.mk.injEq,R6,B3]at d;obtain⟨⟨rfl,rfl⟩,rfl⟩:=d;exact r _
 have Wa:(Go.store (⟨b,off+j,none⟩:Addr) v).run P w=.ok () (w.setCell ⟨b,off+j,none⟩ v):=by rw[run_store P w _ v _ I,Hd];simp[A]
 have U:(execOp a.eval ⟨none,.store t x y,ty,pos,af,gd⟩).run P w=.ok .skip (w.setCell ⟨b,off+j,none⟩ v):=by
  have h0:(⟨b,off+j,none⟩:Addr).add 0=⟨b,off+j,none⟩:=by simp[Addr.add]
  simp[execOp,D.ev R,D.ev O,Instr.storeAt,Instr.sureAddr,storeVar,(Kf T w).2,Sr,storeCells];rw[h0,Wa];rfl
 unfold Ow Oper.wp;rw[U,Oper.upon_skip];refine k _ _ (D.Fa _) ?_ (Nu.setCell _ _);refine(u.Qs C.Qs).upd fun y l p=>?_;have E:=J.stored j v;obtain⟨_,i⟩:=own.Q4y (s:=⟨some ⟨b,off,none⟩,m,c⟩) E
 rcases p.2 with ⟨d,_⟩|⟨M,g,f,d,r,h3,Z,Y,h6⟩
 ·cases d
 ·simp only[Km,Addr.mk.injEq,R6]at d;obtain⟨rfl,rfl⟩:=d;have L:Blk w b e f:=l b _ r
  refine⟨HL.one b (.cells (f.setIfInBounds (off+j) v) e),HL.one_le (L.set _ _),⟨i.1,.inr ⟨b,off,_,rfl,HL.Vf _ _,h3,Z,by simpa using Y,?_⟩⟩,fun z H _=>?_⟩
  ·rcases i.2 with ⟨h,_⟩|⟨M,g,q,h,B,_,_,_,X⟩
   ·cases h
   ·simp only[Km,Addr.mk.injEq,R6]at h;obtain⟨rfl,rfl⟩:=h
    have:q=f.setIfInBounds (off+j) v:=by
     have e1:(w.setCell ⟨b,off+j,none⟩ v).heap[b]?=some (.cells (f.setIfInBounds (off+j) v) e (0,0)):=L.set _ _;unfold HL.of at B;rw[e1]at B;cases B;rfl
    rw[←this];exact X
  ·have N:z≠b:=fun e=>by subst e;rw[r]at H;cases H
   exact⟨HL.Kr N,Below.heap_setCell _ _ _ _ N⟩
theorem S0{t e b:Nat}(h:Nw P t=some (e,b)):P.underlying t=some (.slice e)∧∃i,P.info? e=some i∧i.size=b:=by
 unfold Nw at h
 split at h
 ·rename_i d c;cases a:P.info? d with
  | none=>simp[a]at h
  | some i=>
   simp only[a,U3,Km,Hx]at h;obtain⟨rfl,rfl⟩:=h;exact⟨c,i,a,rfl⟩
 ·cases h
def Kt(P:Program)(e:TypeId):Option (List Value×Nat×Nat):=match P.info? e with
 | some i=>match i.zero with
  | some z=>some (z.cells.toList,i.size,i.bytes)
  | none=>none
 | none=>none
theorem S.append{t e E G:Nat}{x y:Operand}{s:SV}{xs f zs:List Value}{I:Value}{m:Nat}{Z:List Assn}(hu:P.underlying t=some (.slice e))(A:Kt P e=some (zs,E,G))(N:Nat.beq zs.length E=true)(hx:ev ρ x=some s.v)[hp:Pick (own s e E xs) Γ Z]
  (hy:ev ρ y=some I) (Y:∀w,Sat w Γ→Ez w I m E f) (j:Ee f=true) (W:s.n+m≤maxLen) (U:(s.n+m)*G≤140737488355328) (hn:Nat.blt d n=true)
  (k:∀J:SV,J.n=s.n+m→S n w0 ((d,J.v)::ρ) (own J e E (xs++f)::Z) K) :
  S n w0 ρ Γ (Ow P Q ⟨some d,.call {callee:=.builtin .append,args:=#[x,y],argTypes:=#[t,t]},ty,pos,af,gd⟩ K):=by
 intro a w V O Nu;unfold Kt at A;split at A
 case h_2=>cases A
 rename_i i T;split at A
 case h_2=>cases A
 rename_i z hz;simp only[Km,Hx]at A;obtain⟨rfl,rfl,rfl⟩:=A;have M:z.cells.size=i.size:=by simpa using Nat.eq_of_beq_eq_true N
 obtain⟨y0,l0,p0⟩:=(O.Qs hp.Qs).head;have hO:=(p0.mono l0).Qj7;unfold Ow;refine Qjh x y t rfl e i z i.size i.bytes hu T hz rfl rfl M s.v s.n xs _ hO (V.ev hx) I m f (V.ev hy) (Y w O) (fun v hv=>Kn.1 j v hv) W U ?_;intro v' w' g' o keep hg;obtain⟨D,c,rfl⟩:∃D c,v'=.slice D (s.n+m) c:=by obtain⟨_,D,c,j,_⟩:=o.sl;exact⟨D,c,j⟩
 obtain⟨g,L⟩:=own.Q4y (s:=⟨D,s.n+m,c⟩) o;refine k ⟨D,s.n+m,c⟩ rfl _ _ (V.put hn _) ?_ (Nu.trans ⟨keep.os,keep.tape,keep.output,keep.size,keep.drawn⟩);refine(O.Qs hp.Qs).upd fun q l p=>?_
 have R:∀b,q b=none→w.heap[b]?≠none→s.a.map (·.block)≠some b:=by
  intro b C _ e1
  rcases p.2 with ⟨h,_⟩|⟨b',off,B,h,F,_⟩
  ·rw[h]at e1;cases e1
  ·rw[h]at e1;simp only[U3,Km]at e1;subst e1;rw[F]at C;cases C
 have X:∀b,w.heap[b]?≠none→b<w.heap.size:=fun b C=>by
  rcases Nz b w.heap.size with h|h
  ·exact h
  ·simp[Array.getElem?_eq_none h]at C
 rcases L.2 with ⟨j,F,h3⟩|⟨b,off,B,j,F,r⟩
 ·exact⟨HL.emp,HL.Hm _,⟨L.1,.inl ⟨j,F,h3⟩⟩,fun b C u=>⟨rfl,keep.block b (X b u) (R b C u)⟩⟩
 ·refine⟨HL.one b (.cells B e),HL.one_le F,⟨L.1,.inr ⟨b,off,B,j,HL.Vf _ _,r⟩⟩,fun H hc u=>⟨HL.Kr fun e1=>?_,keep.block H (X H u) (R H hc u)⟩⟩;subst e1;simp only at j;rw[j]at g;simp only[U3]at g
  rcases hg with h|h
  ·exact R H hc u (by rw[←h,g])
  ·rw[h]at g;cases g;exact absurd (X _ u) (Qi1 _)
end
def wpT(P:Program)(ops:Array Oper)(Q:Exit→Act→World→Prop)(H:World→Prop)(late:Nat→Bool):Nat→Array Bool→Act→World→Prop
 | 0,listed,a,w=>Region.ready .any ops listed=[]∧Q .normal a w
 | fuel+1,listed,a,w=>
  (Region.ready .any ops listed=[]→Q .normal a w) ∧
  ∀i∈Region.ready .any ops listed,wpOp P ops Q i (fun c b=>if late i=true then wpAny P .any ops Q fuel (listed.setIfInBounds i true) c b else H b∧wpT P ops Q H late fuel (listed.setIfInBounds i true) c b) a w
section
variable {P:Program}{ops:Array Oper}{Q:Exit→Act→World→Prop}{H:World→Prop}{late:Nat→Bool}
theorem Ml:∀(fuel:Nat) (listed:Array Bool) (a:Act) (w:World),wpT P ops Q H late fuel listed a w→wpAny P .any ops Q fuel listed a w
 | 0,_,_,_,h=>h
 | fuel+1,_,_,_,h=>⟨h.1,fun i d=>wpOp_mono (fun e c b=>by
   split at b
   ·exact b
   ·exact Ml fuel _ e c b.2) (h.2 i d)⟩
theorem Pr{i:Nat}{g:Oper}{v:Value}(D:List Nat)(hi:ops[i]?=some g)(O:∀(j:Nat) (o:Oper) J b,ops[j]?=some o→o.op≠.select J b)
  (hQ:∀c a w,Q (.panic c) (a.put g.dst v) w→Q (.panic c) a w) (K:∀j,late j=true→j∈D)
  (hD:∀j∈D,∀o,ops[j]?=some o→∃e∈o.after,Region.binds .any e=true∧(e.on=i∨e.on∈D)) :
  ∀(fuel:Nat) (listed:Array Bool) (a:Act) (w:World),
   (∀j p,ops[j]?=some p→j≠i→listed.getD j true=false→(∀e∈p.after,Region.binds .any e=true→e.on≠i)→g.apart ops p=true) →
   (∀j∈D,j≠i∧listed.getD j false=false) →
   i∈Region.ready .any ops listed→YieldsIf P ops H g v a→H w →
   wpT P ops Q H late fuel (listed.setIfInBounds i true) (a.put g.dst v) w→wpT P ops Q H late (fuel+1) listed a w:=by
 have yes:∀(fuel:Nat) (listed:Array Bool) (a:Act) (w:World),(∀j∈D,j≠i∧listed.getD j false=false)→YieldsIf P ops H g v a→H w→wpT P ops Q H late fuel (listed.setIfInBounds i true) (a.put g.dst v) w →
   wpOp P ops Q i (fun x l=>if late i=true then wpAny P .any ops Q fuel (listed.setIfInBounds i true) x l else H l∧wpT P ops Q H late fuel (listed.setIfInBounds i true) x l) a w:=by
  intro fuel listed a w f y z s;have V:late i≠true:=fun e=>(f i (K i e)).1 rfl;refine y.wpOp hi z ?_;simp only[V];exact⟨z,s⟩
 intro fuel;induction fuel with
 | zero=>
  intro listed a w _ f r y z s;refine⟨fun h=>(by rw[h]at r;cases r),fun j R=>?_⟩
  by_cases d:j=i
  ·subst d;exact yes 0 listed a w f y z s
  ·have:=ready_mono R d;rw[s.1]at this;cases this
 | succ fuel ih=>
  intro listed a w L f r y z s;refine⟨fun h=>(by rw[h]at r;cases r),fun j R=>?_⟩
  by_cases d:j=i
  ·subst d;exact yes (fuel+1) listed a w f y z s
  ·have u:=s.2 j (ready_mono R d);obtain⟨M,p,m,q⟩:=mem_ready.1 R;have A:listed.getD i true=false:=(mem_ready.1 r).1
   have N:∀e∈p.after,Region.binds .any e=true→e.on≠i:=fun e S T heq=>by
    have u:=q e S T;rw[heq]at u
    rcases Nz i listed.size with Z|Z
    ·simp[Z]at A u;rw[A]at u;cases u
    ·simp[Array.getElem?_eq_none Z]at u
   have G:j∉D:=fun X=>by
    obtain⟨e,S,T,t⟩:=hD j X p m
    rcases t with t|t
    ·exact N e S T t
    ·have:=q e S T;rw[(f _ t).2]at this;cases this
   have C:late j≠true:=fun e=>G (K j e)
   have Y:wpOp P ops Q j (fun x l=>H l∧wpT P ops Q H late fuel ((listed.setIfInBounds i true).setIfInBounds j true) x l) (a.put g.dst v) w:=by
    refine wpOp_mono (fun x l h=>?_) u;simp only[C]at h;exact h
   have t:=wpOp_putIf m (L j p m d M N) (fun J b=>O i g J b hi) (fun J b=>O j p J b m) hQ y Y
   have n:∀k ok,ops[k]?=some ok→k≠i→(listed.setIfInBounds j true).getD k true=false →
     (∀e∈ok.after,Region.binds .any e=true→e.on≠i)→g.apart ops ok=true:=fun k ok E W B Us=>by
    refine L k ok E W ?_ Us
    by_cases F:j=k
    ·subst F;exact M
    ·rw[getD_set_ne true F]at B;exact B
   have I:∀k∈D,k≠i∧(listed.setIfInBounds j true).getD k false=false:=fun k E=>by
    refine⟨(f k E).1,?_⟩;rw[getD_set_ne false (fun e:j=k=>G (by rw[e];exact E))];exact(f k E).2
   refine wpOp_mono (fun x l U=>?_) t;simp only[C];refine⟨U.2.1,ih (listed.setIfInBounds j true) x l n I (ready_mono r (Qee d)) U.1 U.2.1 ?_⟩;rw[Q87 _ _ d];exact U.2.2
def B4(ops:Array Oper)(listed:Array Bool)(i:Nat)(late D:List Nat):Bool:=
 Region.noSelect ops&&Region.free .any ops listed i&&(Region.ready .any ops listed).contains i&&late.all (fun j=>D.contains j) &&
 D.all fun j=>j != i&&!listed.getD j false&&match ops[j]? with
  | some o=>o.after.any fun e=>Region.binds .any e&&(e.on==i || D.contains e.on)
  | none=>true
end
section
variable {P:Program}{n:Nat}{md:Bool}{w0:WM md}{ρ:Env}{Γ:List Assn}{Q:Exit→Act→World→Prop}{K:Act→World→Prop}{ops:Array Oper}{d:Nat}{Hs:List Assn}{late:List Nat}{fuel:Nat}{listed:Array Bool}
def Dr(P:Program)(ops:Array Oper)(Q:Exit→Act→World→Prop)(Hs:List Assn)(late:List Nat)(fuel:Nat)(listed:Array Bool):Act→World→Prop:=
 wpT P ops (NoPanic Q) (fun w=>Sat w Hs) (fun j=>late.contains j) fuel listed
def DrK(P:Program)(ops:Array Oper)(Q:Exit→Act→World→Prop)(Hs:List Assn)(late:List Nat)(fuel:Nat)(listed:Array Bool)(i:Nat):Act→World→Prop:=fun a w=>
 if late.contains i=true then wpAny P .any ops (NoPanic Q) fuel (listed.setIfInBounds i true) a w else Sat w Hs∧Dr P ops Q Hs late fuel (listed.setIfInBounds i true) a w
theorem S.draw{id:Nat}(Hs:List Assn)(late:List Nat)(d:P.follows .mixedOrders=true)(h:S n w0 ρ Γ (Dr P ops Q Hs late ops.size (Array.replicate ops.size false))):S n w0 ρ Γ ((Code.region id ops true).wp P Q):=
 fun a w f c b=>wp_region_noPanic (wp_region_any d (Ml _ _ _ _ (h a {w with drawn:=w.drawn+1} f (c.of_heap rfl) ⟨b.os,b.tape,b.output,b.size,fun e=>Q88 (b.drawn e)⟩)))
theorem S.Zdy{o:Oper}{v:Value}(i:Nat)(D:List Nat)(l:ops[i]?=some o)(b:B4 ops listed i late D=true)(x:o.guard=none)(z:o.dst=some d)(u:Nat.blt d n=true)(q:Qv P n ρ Hs o v)(B:Ent Γ Hs)
  (k:S n w0 ((d,v)::ρ) Γ (Dr P ops Q Hs late fuel (listed.setIfInBounds i true))):S n w0 ρ Γ (Dr P ops Q Hs late (fuel+1) listed):=by
 intro a w m g r;unfold B4 at b;simp only[Z5,Kn]at b;obtain⟨⟨⟨⟨G,F⟩,E⟩,C⟩,p⟩:=b;have A:YieldsIf P ops (fun w=>Sat w Hs) o v a:=.inl ⟨by simp[Region.wanted,x],fun w s=>q a w m s⟩;unfold Dr
 refine Pr (D:=D) l (Region.noSelect_spec G) (fun _ _ _ h=>h) (fun j c=>by simpa using C j (by simpa using c)) (fun j c o t=>?_) fuel listed a w (Region.free_spec l F) (fun j c=>?_) (by simpa using E) A (g.Qs B) ?_
 ·have:=p j c;simp only[t]at this;obtain⟨e,y,f⟩:=Qy7.1 this.2;simp only[Z5,E2,Qsh,Qy6]at f;exact⟨e,y,f.1,f.2⟩
 ·have:=p j c;simp only[Qbi,Mj,Qi0]at this;exact⟨this.1.1,this.1.2⟩
 ·rw[z];exact k _ _ (m.put u v) g r
theorem S.Qus{o:Oper}{i:Nat}(d:ops[i]?=some o)(e:o.guard=none)(h:S n w0 ρ Γ (Ow P (NoPanic Q) o (DrK P ops Q Hs late fuel listed i))) :
  ∀a w,Jt n ρ a→Sat w Γ→Ext w0 w→wpOp P ops (NoPanic Q) i (DrK P ops Q Hs late fuel listed i) a w:=by
 intro a w f c b;unfold wpOp;simp only[d,Region.wanted,e,C0];exact .inl (h a w f c b)
theorem S.Zrp{i:Nat}{o:Oper}(b:Region.ready .any ops listed=[i])(g:ops[i]?=some o)(k:o.guard=none)(h:S n w0 ρ Γ (Ow P (NoPanic Q) o (DrK P ops Q Hs late fuel listed i))):S n w0 ρ Γ (Dr P ops Q Hs late (fuel+1) listed):=by
 intro a w l f d;refine⟨fun e=>(by rw[b]at e;cases e),fun j c=>?_⟩;rw[b]at c;obtain rfl:=Vd.1 c;exact S.Qus g k h a w l f d
theorem S.Zro{i j:Nat}{o p:Oper}(g:Region.ready .any ops listed=[i,j])(m:ops[i]?=some o)(q:o.guard=none)(l:ops[j]?=some p)(c:p.guard=none)
  (s:S n w0 ρ Γ (Ow P (NoPanic Q) o (DrK P ops Q Hs late fuel listed i))) (r:S n w0 ρ Γ (Ow P (NoPanic Q) p (DrK P ops Q Hs late fuel listed j))):S n w0 ρ Γ (Dr P ops Q Hs late (fuel+1) listed):=by
 intro a w h f d;refine⟨fun e=>(by rw[g]at e;cases e),fun k b=>?_⟩;rw[g]at b;simp only[Yf,Hp,Ho]at b
 rcases b with rfl|rfl
 ·exact S.Qus m q s a w h f d
 ·exact S.Qus l c r a w h f d
theorem S.Zrn{i:Nat}(d:late.contains i=false)(f:Ent Γ Hs)(h:S n w0 ρ Γ (Dr P ops Q Hs late fuel (listed.setIfInBounds i true))):S n w0 ρ Γ (DrK P ops Q Hs late fuel listed i):=by
 intro a w e b c;unfold DrK;rw[d,Qe Q2];exact⟨b.Qs f,h a w e b c⟩
theorem S.Zdz{i:Nat}(c:List Assn)(b:List Nat)(f:late.contains i=true)(h:S n w0 ρ Γ (Dr P ops Q c b fuel (listed.setIfInBounds i true))):S n w0 ρ Γ (DrK P ops Q Hs late fuel listed i):=by
 intro a w g e d;unfold DrK;rw[f,Qh rfl];exact Ml _ _ _ _ (h a w g e d)
theorem S.Zd1(d:Region.ready .any ops listed=[])(h:S n w0 ρ Γ (Q .normal)):S n w0 ρ Γ (Dr P ops Q Hs late fuel listed):=by
 intro a w e c b;cases fuel with
 | zero=>exact⟨d,h a w e c b⟩
 | succ fuel=>exact⟨fun _=>h a w e c b,by rw[d];simp⟩
def wpG(P:Program)(ops:Array Oper)(Q:Exit→Act→World→Prop):List Oper→Act→World→Prop
 | [],a,w=>Q .normal a w
 | o::rest,a,w=>if Region.wanted o (yielded ops a.tmps) then o.wp P a w (wpG P ops Q rest) Q else wpG P ops Q rest (a.put o.dst undef) w
theorem Qzg:∀(l:List Oper),∀a w,wpG P ops Q l a w→wpList P ops Q l a w:=by
 intro l;induction l with
 | nil=>intro a w h;exact h
 | cons o l c=>
  intro a w h;unfold wpList;unfold wpG at h
  split
  ·rename_i b;rw[Qh b]at h;exact .inl (Oper.wp_mono c h)
  ·rename_i b;rw[Qe b]at h;exact c _ _ h
theorem S.Za6{id:Nat}{l:List Oper}(h:S n w0 ρ Γ (wpG P l.toArray Q l)):S n w0 ρ Γ ((Code.region id l.toArray false).wp P Q):=
 fun a w d c b=>wp_region_lit (Qzg l a w (h a w d c b))
theorem S.Zrk{o:Oper}{rest:List Oper}(d:o.guard=none)(h:S n w0 ρ Γ (Ow P Q o (wpG P ops Q rest))):S n w0 ρ Γ (wpG P ops Q (o::rest)):=by
 intro a w e c b;unfold wpG;rw[Qh (by simp[Region.wanted,d])];exact h a w e c b
theorem Ek{a:Act}(f:Jt n ρ a){g t:Nat}{b:Bool}(d:(ops[g]?).bind (·.dst)=some t)(e:Env.get ρ t=some (.bool b)):yielded ops a.tmps g=some b:=by
 have h:=f.get t _ e;unfold yielded;rw[d];cases c:a.tmps[t]? with
 | none=>simp[Array.getD,undef]at h;rw[Array.getElem?_eq_none_iff]at c;rw[dif_neg Qb]at h;cases h
 | some v=>
  have:a.tmps.getD t undef=v:=by simp[Array.getD_eq_getD_getElem?,c]
  rw[this]at h;subst h;simp[c]
theorem S.Zni{o:Oper}{rest:List Oper}{g t:Nat}{b c:Bool}(j:o.guard=some (g,c))(k:(ops[g]?).bind (·.dst)=some t)(l:Env.get ρ t=some (.bool b))(f:b=c)(h:S n w0 ρ Γ (Ow P Q o (wpG P ops Q rest))):S n w0 ρ Γ (wpG P ops Q (o::rest)):=by
 intro a w d i e;unfold wpG;rw[Qh (by simp[Region.wanted,j,Ek d k l,f])];exact h a w d i e
theorem S.Zrl{o:Oper}{rest:List Oper}{g t:Nat}{b c:Bool}(m:o.guard=some (g,c))(p:(ops[g]?).bind (·.dst)=some t)(q:Env.get ρ t=some (.bool b))(j:b=!c)(e:o.dst=some d)(l:Nat.blt d n=true)
  (h:S n w0 ((d,undef)::ρ) Γ (wpG P ops Q rest)):S n w0 ρ Γ (wpG P ops Q (o::rest)):=by
 intro a w f k i;unfold wpG;rw[Qe (by simp[Region.wanted,m,Ek f p q,j])];rw[e];exact h _ _ (f.put l _) k i
theorem Zbh{j:Option Tmp}{e:TypeId}{pos:String}{k:Array Edge}{i:Option (Nat×Bool)}{c x y:Operand}{v:Value}{b:Bool}(g:ev ρ c=some (.bool b))(h:b=true)(f:ev ρ x=some v):Qv P n ρ Γ ⟨j,.pick c x y,e,pos,k,i⟩ v:=fun a w d _=>by
 subst h;simp[execOp,d.ev g,d.ev f,asBool]
theorem Zbi{j:Option Tmp}{e:TypeId}{pos:String}{k:Array Edge}{i:Option (Nat×Bool)}{c x y:Operand}{v:Value}{b:Bool}(g:ev ρ c=some (.bool b))(h:b=false)(f:ev ρ y=some v):Qv P n ρ Γ ⟨j,.pick c x y,e,pos,k,i⟩ v:=fun a w d _=>by
 subst h;simp[execOp,d.ev g,d.ev f,asBool]
theorem S.Q7r{o:Oper}{v:Value}{g t:Nat}{b c:Bool}(i:Nat)(D:List Nat)(u:ops[i]?=some o)(f:B4 ops listed i late D=true)(C:o.guard=some (g,c))(q:(ops[g]?).bind (·.dst)=some t)(m:Env.get ρ t=some (.bool b))(p:b=c)(F:o.dst=some d)(B:Nat.blt d n=true)(y:Qv P n ρ Hs o v)(H:Ent Γ Hs)
  (k:S n w0 ((d,v)::ρ) Γ (Dr P ops Q Hs late fuel (listed.setIfInBounds i true))):S n w0 ρ Γ (Dr P ops Q Hs late (fuel+1) listed):=by
 intro a w r s z;unfold B4 at f;simp only[Z5,Kn]at f;obtain⟨⟨⟨⟨L,K⟩,J⟩,I⟩,x⟩:=f;have G:YieldsIf P ops (fun w=>Sat w Hs) o v a:=.inl ⟨by simp[Region.wanted,C,Ek r q m,p],fun w p=>y a w r p⟩;unfold Dr
 refine Pr (D:=D) u (Region.noSelect_spec L) (fun _ _ _ h=>h) (fun j l=>by simpa using I j (by simpa using l)) (fun j l o A=>?_) fuel listed a w (Region.free_spec u K) (fun j l=>?_) (by simpa using J) G (s.Qs H) ?_
 ·have:=x j l;simp only[A]at this;obtain⟨e,E,m⟩:=Qy7.1 this.2;simp only[Z5,E2,Qsh,Qy6]at m;exact⟨e,E,m.1,m.2⟩
 ·have:=x j l;simp only[Qbi,Mj,Qi0]at this;exact⟨this.1.1,this.1.2⟩
 ·rw[F];exact k _ _ (r.put B v) s z
theorem S.Q7t{o:Oper}{g t:Nat}{b c:Bool}(i:Nat)(D:List Nat)(r:ops[i]?=some o)(f:B4 ops listed i late D=true)(A:o.guard=some (g,c))(p:(ops[g]?).bind (·.dst)=some t)(m:Env.get ρ t=some (.bool b))(x:b=!c)(C:o.dst=some d)(z:Nat.blt d n=true)(F:Ent Γ Hs)
  (k:S n w0 ((d,undef)::ρ) Γ (Dr P ops Q Hs late fuel (listed.setIfInBounds i true))):S n w0 ρ Γ (Dr P ops Q Hs late (fuel+1) listed):=by
 intro a w s q v;unfold B4 at f;simp only[Z5,Kn]at f;obtain⟨⟨⟨⟨J,I⟩,H⟩,G⟩,u⟩:=f;have E:YieldsIf P ops (fun w=>Sat w Hs) o undef a:=.inr ⟨by simp[Region.wanted,A,Ek s p m,x],rfl⟩;unfold Dr
 refine Pr (D:=D) r (Region.noSelect_spec J) (fun _ _ _ h=>h) (fun j l=>by simpa using G j (by simpa using l)) (fun j l o y=>?_) fuel listed a w (Region.free_spec r I) (fun j l=>?_) (by simpa using H) E (q.Qs F) ?_
 ·have:=u j l;simp only[y]at this;obtain⟨e,B,m⟩:=Qy7.1 this.2;simp only[Z5,E2,Qsh,Qy6]at m;exact⟨e,B,m.1,m.2⟩
 ·have:=u j l;simp only[Qbi,Mj,Qi0]at this;exact⟨this.1.1,this.1.2⟩
 ·rw[C];exact k _ _ (s.put z _) q v
theorem S.Znl{i g t:Nat}{b c:Bool}{o:Oper}(f:Region.ready .any ops listed=[i])(r:ops[i]?=some o)(s:o.guard=some (g,c))(d:(ops[g]?).bind (·.dst)=some t)(u:Env.get ρ t=some (.bool b))(p:b=c)(h:S n w0 ρ Γ (Ow P (NoPanic Q) o (DrK P ops Q Hs late fuel listed i))):S n w0 ρ Γ (Dr P ops Q Hs late (fuel+1) listed):=by
 intro a w l q m;refine⟨fun e=>(by rw[f]at e;cases e),fun j k=>?_⟩;rw[f]at k;obtain rfl:=Vd.1 k;unfold wpOp;simp only[r];rw[Qh (by simp[Region.wanted,s,Ek l d u,p])];exact .inl (h a w l q m)
def Cut{md:Bool}(n:Nat)(w0:WM md)(I:Env→List Assn→Prop):Act→World→Prop:=fun a w=>∃ρ Γ,I ρ Γ∧Jt n ρ a∧Sat w Γ∧Ext w0 w
theorem S.meet{I:Env→List Assn→Prop}{a:Env}{b:List Assn}(h:I a b)(c:Ad a ρ)(d:Ent Γ b):S n w0 ρ Γ (Cut n w0 I):=fun _ _ g f e=>⟨a,b,h,g.sub c,f.Qs d,e⟩
end
section
variable {P:Program}{ops:Array Oper}{Q:Exit→Act→World→Prop}{H:World→Prop}{late:Nat→Bool}
theorem Qsw{i:Nat}{g:Oper}{v:Value}(K:ops[i]?=some g)(r:∀(j:Nat) (o:Oper) B b,ops[j]?=some o→o.op≠.select B b)
  (O:∀c a w,Q (.panic c) (a.put g.dst v) w→Q (.panic c) a w) (I:late i≠true) :
  ∀(fuel:Nat) (listed:Array Bool) (a:Act) (w:World),
   (∀j m,ops[j]?=some m→j≠i→listed.getD j true=false→(∀e∈m.after,Region.binds .any e=true→e.on≠i)→g.apart ops m=true) →
   i∈Region.ready .any ops listed→Yields P ops g v a→H w →
   wpT P ops Q H late fuel (listed.setIfInBounds i true) (a.put g.dst v) w→wpT P ops Q H late (fuel+1) listed a w:=by
 have yes:∀(fuel:Nat) (listed:Array Bool) (a:Act) (w:World),Yields P ops g v a→H w→wpT P ops Q H late fuel (listed.setIfInBounds i true) (a.put g.dst v) w →
   wpOp P ops Q i (fun C s=>if late i=true then wpAny P .any ops Q fuel (listed.setIfInBounds i true) C s else H s∧wpT P ops Q H late fuel (listed.setIfInBounds i true) C s) a w:=by
  intro fuel listed a w t A p;refine t.wpOp K ?_;simp only[I];exact⟨A,p⟩
 intro fuel;induction fuel with
 | zero=>
  intro listed a w _ l t A p;refine⟨fun h=>(by rw[h]at l;cases l),fun j F=>?_⟩
  by_cases d:j=i
  ·subst d;exact yes 0 listed a w t A p
  ·have:=ready_mono F d;rw[p.1]at this;cases this
 | succ fuel R=>
  intro listed a w D l t A p;refine⟨fun h=>(by rw[h]at l;cases l),fun j F=>?_⟩
  by_cases d:j=i
  ·subst d;exact yes (fuel+1) listed a w t A p
  ·have q:=p.2 j (ready_mono F d);obtain⟨E,m,n,z⟩:=mem_ready.1 F
   have M:∀e∈m.after,Region.binds .any e=true→e.on≠i:=fun e T U heq=>by
    have q:=z e T U;have h0:=(mem_ready.1 l).1;rw[heq]at q
    rcases Nz i listed.size with L|L
    ·simp[L]at h0 q;rw[h0]at q;cases q
    ·simp[Array.getElem?_eq_none L]at q
   have V:=wpOp_put n (D j m n d E M) (fun B b=>r i g B b K) (fun B b=>r j m B b n) O t q
   have f:∀k ok,ops[k]?=some ok→k≠i→(listed.setIfInBounds j true).getD k true=false →
     (∀e∈ok.after,Region.binds .any e=true→e.on≠i)→g.apart ops ok=true:=fun k ok S J x W=>by
    refine D k ok S J ?_ W
    by_cases y:j=k
    ·subst y;exact E
    ·rw[getD_set_ne true y]at x;exact x
   refine wpOp_mono (fun C s G=>?_) V;obtain⟨G,u⟩:=G
   by_cases N:late j=true
   ·rw[Qh N]at u ⊢;refine wpAny_first K r O fuel (listed.setIfInBounds j true) C s f (ready_mono l (Qee d)) G ?_;rw[Q87 _ _ d];exact u
   ·rw[Qe N]at u ⊢;refine⟨u.1,R (listed.setIfInBounds j true) C s f (ready_mono l (Qee d)) G u.1 ?_⟩;rw[Q87 _ _ d];exact u.2
end
def Ql8(ops:Array Oper)(listed:Array Bool)(i:Nat)(late:List Nat):Bool:=
 Region.noSelect ops&&Region.free .any ops listed i&&(Region.ready .any ops listed).contains i&&!late.contains i
section
variable {P:Program}{n:Nat}{md:Bool}{w0:WM md}{ρ:Env}{Γ:List Assn}{Q:Exit→Act→World→Prop}{ops:Array Oper}{d:Nat}{Hs:List Assn}{late:List Nat}{fuel:Nat}{listed:Array Bool}
theorem S.Q7s{o:Oper}{v:Value}(i:Nat)(e:ops[i]?=some o)(b:Ql8 ops listed i late=true)(m:o.guard=none)(p:o.dst=some d)(l:Nat.blt d n=true)(g:Qv P n ρ [] o v)(r:Ent Γ Hs)
  (k:S n w0 ((d,v)::ρ) Γ (Dr P ops Q Hs late fuel (listed.setIfInBounds i true))):S n w0 ρ Γ (Dr P ops Q Hs late (fuel+1) listed):=by
 intro a w f c j;unfold Ql8 at b;simp only[Z5]at b;obtain⟨⟨⟨x,u⟩,t⟩,s⟩:=b;have q:Yields P ops o v a:=.inl ⟨by simp[Region.wanted,m],fun w=>g a w f ⟨HL.emp,HL.Hm _,trivial⟩⟩;unfold Dr;refine Qsw e (Region.noSelect_spec x) (fun _ _ _ h=>h) (by simpa using s) fuel listed a w (Region.free_spec e u) (by simpa using t) q (c.Qs r) ?_;rw[p];exact k _ _ (f.put l v) c j
end
theorem Xy{x:Int}(b:-9223372036854775808≤x)(a:x≤9223372036854775807):IntKind.i64.min≤x∧x≤IntKind.i64.max:=by
 rw[show IntKind.i64.min=-9223372036854775808 by decide,show IntKind.i64.max=9223372036854775807 by decide];exact⟨b,a⟩
theorem Qd6{x:Int}(b:0≤x)(a:x≤18446744073709551615):IntKind.u64.min≤x∧x≤IntKind.u64.max:=by
 rw[show IntKind.u64.min=0 by decide,show IntKind.u64.max=18446744073709551615 by decide];exact⟨b,a⟩
theorem Qx7{x:Int}(b:0≤x)(a:x≤4294967295):IntKind.u32.min≤x∧x≤IntKind.u32.max:=by
 rw[show IntKind.u32.min=0 by decide,show IntKind.u32.max=4294967295 by decide];exact⟨b,a⟩
theorem Zlt{x:Int}(b:0≤x)(a:x≤65535):IntKind.u16.min≤x∧x≤IntKind.u16.max:=by
 rw[show IntKind.u16.min=0 by decide,show IntKind.u16.max=65535 by decide];exact⟨b,a⟩
theorem Zcn{x:Int}(b:0≤x)(a:x≤255):IntKind.u8.min≤x∧x≤IntKind.u8.max:=by
 rw[show IntKind.u8.min=0 by decide,show IntKind.u8.max=255 by decide];exact⟨b,a⟩
section
variable {P:Program}{n:Nat}{md:Bool}{w0:WM md}{ρ:Env}{Γ:List Assn}{Q:Exit→Act→World→Prop}{K:Act→World→Prop}{ty:TypeId}{pos:String}{af:Array Edge}{gd:Option (Nat×Bool)}{d:Nat}{ds:Option Tmp}
def X8(a:List Value):Nat→List Value
 | 0=>[]
 | k+1=>a++X8 a k
theorem D4(a:List Value)(k:Nat):(X8 a k).length=k*a.length:=by
 induction k with
 | zero=>simp[X8]
 | succ k b=>simp[X8,b,Nat.succ_mul];omega
theorem Qo6(a:List Value)(k:Nat):∀i,i<k*a.length→(X8 a k)[i]?=a[i % a.length]?:=by
 induction k with
 | zero=>intro i h;omega
 | succ k c=>
  intro i h;rw[Cz]at h;unfold X8
  by_cases b:i<a.length
  ·rw[Qlv b,Qbh b]
  ·rw[Qlu Qb,c (i-a.length) Qb]
   congr 1
   rw[←Qy5 Qb]
theorem Rj(a:List Value)(b:0<a.length)(k:Nat):(Array.range (k*a.length)).map (fun i=>a.toArray[i % a.toArray.size]!)=(X8 a k).toArray:=by
 apply Array.toList_inj.1;apply E1;intro i
 by_cases h:i<k*a.length
 ·rw[Qo6 a k i h];have c:i % a.length<a.length:=Qiz _ b;simp[h,c]
 ·rw[Pf (by simp;omega),Pf (by rw[D4];omega)]
theorem S.buildSlice{t e h r len:Nat}{xs:List (Nat×Operand)}{pvs:List (Nat×Value)}{m:List Value}(j:List Value)(A:P.underlying t=some (.slice e))(f:Kt P e=some (m,h,r))(I:Nat.beq m.length h=true)(g:(Nat.blt 0 (len*h)&&Nat.ble (len*h) 16777216)=true)(G:EvP ρ xs pvs)
  (F:Qid (fun i=>some (i*h,h)) (X8 m len) pvs=some j) (D:Nat.blt d n=true) (k:∀b,S n w0 ((d,.slice (some ⟨b,0,none⟩) len len)::ρ) (blk b e j.toArray::Γ) K) :
  S n w0 ρ Γ (Ow P Q ⟨some d,.buildSlice t len xs.toArray,ty,pos,af,gd⟩ K):=by
 intro a w u B y;unfold Kt at f;split at f
 case h_2=>cases f
 rename_i i q;split at f
 case h_2=>cases f
 rename_i z v;simp only[Km,Hx]at f;obtain⟨rfl,rfl,rfl⟩:=f;have c:z.cells.size=i.size:=by simpa using Nat.eq_of_beq_eq_true I
 simp only[Z5]at g;have H:0<len*i.size:=by have:=g.1;simp[Nat.blt]at this;exact Q86 Qb
 have J:len*i.size≤16777216:=Qbj g.2
 have o:0<z.cells.toList.length:=by
  rw[Mk,c];exact Q86 fun e=>by rw[e]at H;omega
 have E:(xs.toArray.map fun x:Nat×Operand=>(x.1,a.eval x.2)).toList=pvs:=by
  have:=G.map u
  simpa using this
 have l:=Sy _ pvs _ j F;have s:=Rj z.cells.toList o len;rw[Mk,c]at s;simp only[Q85]at s;rw[←s]at l;have C:=run_buildSlice (P:=P) w t e len (xs.toArray.map fun x:Nat×Operand=>(x.1,a.eval x.2)) j.toArray i z A q v Qb Qb (by rw[E,c];exact l);unfold Ow Oper.wp
 have p:(execOp a.eval ⟨some d,.buildSlice t len xs.toArray,ty,pos,af,gd⟩).run P w=.ok (.value (.slice (some ⟨w.heap.size,0,none⟩) len len)) (w.alloc (.cells j.toArray e)):=by
  simp only[execOp,Sem.run_bind,C,Result.andThen_ok,Sem.run_pure]
 rw[p,Oper.upon_value];exact k w.heap.size _ _ (u.put D _) (B.alloc _ _) (y.alloc _)
theorem Yb{b:Nat}{e:TypeId}{a:List Value}{d:List Assn}{m c:Nat}[h:Mh Γ b e a.toArray d](i:a.length=m*c)(g:m≤maxLen):∀w,Sat w Γ→Ez w (.slice (some ⟨b,0,none⟩) m m) m c a:=fun w f=>
 Ez.block a.toArray a Q2 (h.blk f) i g
def Wo(W:World):Assn:=fun h=>∀(b:Nat) (o:Obj),W.heap[b]?=some o→h b=some o
class Dc(Γ:List Assn)(W:outParam World):Prop where
 sat:∀(w:World),Sat w Γ→∀(b:Nat) (o:Obj),W.heap[b]?=some o→w.heap[b]?=some o
instance (priority:=high) Dc.head{W:World}:Dc (Wo W::Γ) W:=⟨fun w a b o h=>by obtain⟨x,l,p⟩:=a.head;exact l b o (p b o h)⟩
theorem Dc.cell{W:World}(h:Dc Γ W){w:World}(d:Sat w Γ){a:Addr}{v:Value}(b:W.cell? a=some v):w.cell? a=some v:=by
 unfold World.cell? at b ⊢;cases c:W.heap[a.block]? with
 | none=>rw[c]at b;cases b
 | some o=>rw[c]at b;rw[h.sat w d _ _ c];exact b
theorem Dc.Tq{W:World}(h:Dc Γ W){w:World}(d:Sat w Γ){v:Value}{m b:Nat}{xs:List Value}(e:Ez W v m b xs):Ez w v m b xs:=by
 obtain⟨h0,t,c,r,q,p,n,l⟩:=e;refine⟨h0,t,c,r,q,p,n,fun a k i=>?_⟩;obtain⟨g1,g2,s⟩:=l a k i;obtain⟨o,g⟩:∃o,W.heap[a.block]?=some o:=⟨_,R3 g2⟩;exact⟨g1,(Qwe.1 (h.sat w d _ _ g)).1,fun j u f=>h.cell d (s j u f)⟩
theorem Bk{t:TypeId}{x:Operand}{p:Addr}{W:World}{v:Value}[h:Dc Γ W](d:Fy P t=true)(b:ev ρ x=some (.pointer (some p)))(c:W.cell? p=some v):Qv P n ρ Γ ⟨ds,.load t x,ty,pos,af,gd⟩ v:=by
 intro a w i e;have g:=h.cell e c
 have f:(loadVar t p).run P w=.ok v w:=by
  unfold loadVar;rw[Sem.run_bind,(Kf d w).1];exact Bg g
 simp only[execOp,i.ev b,Instr.loadAt,Instr.sureAddr,Sem.run_bind,Sem.run_pure,Result.andThen_ok,f]
end
class Uo(Γ:List Assn)(s:SV)(e:outParam TypeId)(sz:outParam Nat)(xs:outParam (List Value))(Δ:outParam (List Assn)):Prop where
 Qs:Ent Γ (own s e sz xs::Δ)
instance (priority:=high) Uo.head{Γ:List Assn}{s:SV}{e:TypeId}{a:Nat}{xs:List Value}:Uo (own s e a xs::Γ) s e a xs Γ:=⟨Ent.refl _⟩
instance Uo.tail{A:Assn}{Γ a:List Assn}{s:SV}{e:TypeId}{b:Nat}{xs:List Value}[h:Uo Γ s e b xs a]:Uo (A::Γ) s e b xs (A::a):=⟨(h.Qs.cons A).trans (Ent.swap _ _ _)⟩
theorem Uo.own{Γ Δ:List Assn}{s:SV}{e:TypeId}{a:Nat}{xs:List Value}(h:Uo Γ s e a xs Δ){w:World}(b:Sat w Γ):Own w e a s.v s.n xs (s.a.map (·.block)):=by
 obtain⟨x,l,p⟩:=(b.Qs h.Qs).head;exact(p.mono l).Qj7
theorem Uo.Tq{Γ b:List Assn}{s:SV}{e:TypeId}{a:Nat}{xs:List Value}(h:Uo Γ s e a xs b){w:World}(c:Sat w Γ):Ez w s.v s.n a xs:=(h.own c).sl
theorem Uo.Zi7{Γ a:List Assn}{s:SV}{e:TypeId}{c:Nat}{xs:List Value}(h:Uo Γ s e c xs a){b off:Nat}(d:s.a=some ⟨b,off,none⟩):Qsb Γ b off s.n s.c e c xs a:=
 ⟨by have:=h.Qs;obtain⟨f,sn,sc⟩:=s;simp only at d;subst d;exact this⟩
section
variable {P:Program}{n:Nat}{md:Bool}{w0:WM md}{ρ:Env}{Γ:List Assn}{Q:Exit→Act→World→Prop}{K:Act→World→Prop}{ty:TypeId}{pos:String}{af:Array Edge}{gd:Option (Nat×Bool)}{d:Nat}{ds:Option Tmp}
theorem S.Xn{d:Act→World→Prop}(s:SV){e:TypeId}{f:Nat}{xs:List Value}{l:List Assn}[h:Uo Γ s e f xs l](k:xs.length=s.n*f→s.n≤s.c→s.c≤maxLen→S n w0 ρ Γ d):S n w0 ρ Γ d:=by
 intro a w j c i;obtain⟨x,_,g,m⟩:=(c.Qs h.Qs).head
 rcases m with ⟨_,e2,e3⟩|⟨b,off,q,e1,_,p,o,_⟩
 ·exact k g Qb (by rw[e3];exact Xq _) a w j c i
 ·exact k g p o a w j c i
theorem S.Q7{c:Act→World→Prop}(s:SV){e:TypeId}{d:Nat}{xs:List Value}{g:List Assn}[h:Uo Γ s e d xs g](r:0<s.n)(k:∀b off,s.a=some ⟨b,off,none⟩→xs.length=s.n*d→s.n≤s.c→s.c≤maxLen→S n w0 ρ Γ c):S n w0 ρ Γ c:=by
 intro a w m f l;obtain⟨x,_,j,i⟩:=(f.Qs h.Qs).head
 rcases i with ⟨_,e2,_⟩|⟨b,off,q,e1,_,p,o,_⟩
 ·omega
 ·exact k b off e1 j p o a w m f l
theorem Q4a{t:TypeId}{x y:Operand}{e a b o l c:Nat}{k:IntKind}{z:Int}{p:Option Addr}(i:Nat)(j:Nw P t=some (e,a))(g:ev ρ x=some (.slice p l c))(m:p=some ⟨b,o,none⟩)(f:ev ρ y=some (.int k z))(d:z=((i:Nat):Int))(h:i<l):Qv P n ρ Γ ⟨ds,.indexAddr t x y,ty,pos,af,gd⟩ (.pointer (some ⟨b,o+i*a,none⟩)):=by
 subst m d;exact Zbk (i:=(i:Int)) j g f ⟨Qb,Qb⟩
theorem Q37{t b o:Nat}{x:Operand}{e:TypeId}{c:Nat}{xs:List Value}{v:Value}{a:List Assn}(s:SV){off:Nat}(j:Nat)(g:Fy P t=true)(d:ev ρ x=some (.pointer (some ⟨b,o,none⟩)))[h:Uo Γ s e c xs a](i:s.a=some ⟨b,off,none⟩)(k:o=off+j)(f:xs[j]?=some v) :
  Qv P n ρ Γ ⟨ds,.load t x,ty,pos,af,gd⟩ v:=by
 have:=h.Zi7 i;exact Zbj j g d k f
theorem Ub{t b o k:Nat}{x:Operand}{e:TypeId}{d:Nat}{xs:List Value}{c:List Assn}(s:SV){off:Nat}(j:Nat)(a:List Value)(l:S5 P t=some k)(f:ev ρ x=some (.pointer (some ⟨b,o,none⟩)))[h:Uo Γ s e d xs c](m:s.a=some ⟨b,off,none⟩)(p:o=off+j)(q:a.length=k)(g:∀i u,a[i]?=some u→xs[j+i]?=some u) :
  Qv P n ρ Γ ⟨ds,.load t x,ty,pos,af,gd⟩ (.agg a.toArray):=by
 have:=h.Zi7 m;exact Q38 j a l f p q g
theorem S.Xa{t b o:Nat}{x y:Operand}{e:TypeId}{f:Nat}{xs a:List Value}{v:Value}{d:List Assn}(s:SV){off:Nat}(j:Nat)(m:Fy P t=true)(i:ev ρ x=some (.pointer (some ⟨b,o,none⟩)))(g:ev ρ y=some v)(l:v.oneCell'=true)[h:Uo Γ s e f xs d](c:s.a=some ⟨b,off,none⟩)(p:o=off+j)(q:j<xs.length)(r:xs.set j v=a)
  (k:S n w0 ρ (own s e f a::d) K):S n w0 ρ Γ (Ow P Q ⟨none,.store t x y,ty,pos,af,gd⟩ K):=by
 have:=h.Zi7 c;subst r;refine S.Zgu j m i g l p q ?_;obtain⟨u,sn,sc⟩:=s;simp only at c;subst c;exact k
theorem S.Qbt{t e f:Nat}{x y:Operand}{s:SV}{xs:List Value}{kk:IntKind}{z:Int}{u:List Assn}(m:Nat)(F:Nw P t=some (e,f))(D:ev ρ x=some s.v)[h:Uo Γ s e f xs u](C:ev ρ y=some (.int kk z))(B:z=((m:Nat):Int))(L:m≤s.n)(I:Nat.blt d n=true)
  (k:∀g:SV,g.n=s.n-m→S n w0 ((d,g.v)::ρ) (own g e f (xs.drop (m*f))::u) K):S n w0 ρ Γ (Ow P Q ⟨some d,.slice t x (some y) none none,ty,pos,af,gd⟩ K):=by
 intro a w r j U;subst B;obtain⟨E,i,M,rfl⟩:=S0 F;have X:=h.own j;obtain⟨V,W,A⟩:=(j.Qs h.Qs).head
 have H:s.n≤s.c:=by
  rcases A.2 with ⟨_,e2,e3⟩|⟨_,_,_,_,_,R,_⟩
  ·omega
  ·exact R
 have G:(execOp a.eval ⟨some d,.slice t x (some y) none none,ty,pos,af,gd⟩).run P w=.ok (.value (.slice (if s.c=m then s.a else s.a.map (·.add (m*i.size))) (s.n-m) (s.c-m))) w:=by
  have J:(m:Int)≤(s.n:Int):=Qb
  simp[execOp,r.ev D,r.ev C,Instr.sliceAt,Instr.slice,run_underlying E,Instr.sliceBounds,Instr.sliceBound,asIntOf,L,sizeOf,typeInfo,M]
 unfold Ow Oper.wp;rw[G,Oper.upon_value];have v:(s.n-m)*i.size+m*i.size=s.n*i.size:=by rw[←Qi7];congr 1;omega
 refine k ⟨if s.c=m then s.a else s.a.map (·.add (m*i.size)),s.n-m,s.c-m⟩ rfl _ _ (r.put I _) ?_ U;refine(j.Qs h.Qs).upd fun q l p=>⟨q,l,?_,fun b O _=>⟨O,rfl⟩⟩;refine⟨by rw[R4,p.1];simp only;omega,?_⟩
 rcases p.2 with ⟨e1,e2,e3⟩|⟨b,off,c,e1,e2,e3,Y,e5,T⟩
 ·exact .inl ⟨by simp[e1],by simp only;omega,by simp only;omega⟩
 ·by_cases o:s.c=m
  ·refine .inr ⟨b,off,c,by simp[o,e1],e2,by simp only;omega,by simp only;omega,?_,?_⟩
   ·simp only[o,Qiy,Qix];have:0≤s.c*i.size:=Xq _;omega
   ·have h0:s.n-m=0:=Qb
    simp only[h0,Qix,List.take_zero];rw[Qlt (by rw[p.1];exact R5 _ Qb)]
  ·have N:(s.c-m)*i.size+m*i.size=s.c*i.size:=by rw[←Qi7];congr 1;omega
   refine .inr ⟨b,off+m*i.size,c,by simp[o,e1,Addr.add_lit],e2,by simp only;omega,by simp only;omega,by simp only;omega,?_⟩;rw[←T,Qsj,Qls]
   congr 1
   simp only;omega
theorem S.Z6{t e b f:Nat}{x y:Operand}{s:SV}{xs p:List Value}{q:Value}{g:List Assn}(m:Nat)(a:List Value)(v:P.underlying t=some (.slice e))(A:Kt P e=some (p,b,f))(j:Nat.beq p.length b=true)(u:ev ρ x=some s.v)[h:Uo Γ s e b xs g]
  (r:ev ρ y=some q) (o:∀w,Sat w Γ→Ez w q m b a) (B:Ee a=true) (l:(s.n+m)*f≤140737488355328∧s.n+m≤140737488355328) (z:Nat.blt d n=true)
  (k:∀i:SV,i.n=s.n+m→S n w0 ((d,i.v)::ρ) (own i e b (xs++a)::g) K) :
  S n w0 ρ Γ (Ow P Q ⟨some d,.call {callee:=.builtin .append,args:=#[x,y],argTypes:=#[t,t]},ty,pos,af,gd⟩ K):=by
 have c:=h.Qs;have:Pick (own s e b xs) Γ g:=⟨c⟩;exact S.append v A j u r o B (by unfold maxLen;omega) l.1 z k
end
theorem S.conv{n:Nat}{md:Bool}{w0:WM md}{ρ:Env}{Γ:List Assn}{a:Act→World→Prop}(A:Assn){c b:List Assn}[p:Pick A Γ c](h:Ent (A::c) b)(k:S n w0 ρ b a):S n w0 ρ Γ a:=S.Qs (p.Qs.trans h) k
theorem S.U2{n:Nat}{md:Bool}{w0:WM md}{ρ:Env}{Γ:List Assn}{b:Act→World→Prop}(A B:Assn){d a c:List Assn}[p:Pick A Γ d][q:Pick B d a](h:Ent (A::B::a) c)(k:S n w0 ρ c b):S n w0 ρ Γ b:=S.Qs ((p.Qs.trans (q.Qs.cons A)).trans h) k
theorem S.X0{n:Nat}{md:Bool}{w0:WM md}{ρ:Env}{Γ:List Assn}{c:Act→World→Prop}(A B C:Assn){e b a d:List Assn}[p:Pick A Γ e][q:Pick B e b][r:Pick C b a](h:Ent (A::B::C::a) d)(k:S n w0 ρ d c):S n w0 ρ Γ c:=S.Qs ((p.Qs.trans ((q.Qs.trans (r.Qs.cons B)).cons A)).trans h) k
theorem Y1{b:Type}{a:b→List Value}{c:Nat}(d:∀x,(a x).length=c):∀(os:List b),(os.flatMap a).length=os.length*c
 | []=>by simp
 | x::os=>by rw[G2,Yd,d,Y1 d os,Ka,Cz];omega
theorem flat_get{b:Type}{enc:b→List Value}{sz:Nat}(c:∀x,(enc x).length=sz):∀ {os:List b} {i k:Nat} {x:b} {v:Value},os[i]?=some x→(enc x)[k]?=some v→(os.flatMap enc)[i*sz+k]?=some v
 | [],_,_,_,_,h,_=>by simp at h
 | y::os,0,k,x,v,h,a=>by
  simp only[Qsi,Km]at h;subst h;rw[G2,Qix,Qj2,Qlv (Yz.1 a).1];exact a
 | y::os,i+1,k,x,v,h,a=>by
  rw[G2,Qlu (by rw[c,Cz];omega),c];have:=flat_get c (os:=os) (i:=i) (k:=k) (by simpa using h) a
  rwa [show (i+1)*sz+k-sz=i*sz+k by rw[Cz];omega]
theorem Qrh{b:Type}{enc:b→List Value}{sz:Nat}(a:∀x,(enc x).length=sz):∀ {os:List b} {i k:Nat} {x x':b} {v:Value},os[i]?=some x→k<sz→enc x'=(enc x).set k v→(os.flatMap enc).set (i*sz+k) v=(os.set i x').flatMap enc
 | [],_,_,_,_,_,h,_,_=>by simp at h
 | y::os,0,k,x,x',v,h,d,c=>by
  simp only[Qsi,Km]at h;subst h;rw[G2,Qix,Qj2,List.set_append_left _ _ (by rw[a];exact d),Qlw,G2,c]
 | y::os,i+1,k,x,x',v,h,d,c=>by
  rw[G2,Qsg _ _ (by rw[a,Cz];omega),a,Qiw,G2];have:=Qrh a (os:=os) (i:=i) (k:=k) (by simpa using h) d c;rw[show (i+1)*sz+k-sz=i*sz+k by rw[Cz];omega,this]
theorem Wv{b:Type}(a:b→List Value)(os:List b)(x:b):os.flatMap a++a x=(os++[x]).flatMap a:=Q2
theorem Q1j{c:Type}{a:c→List Value}{b:Nat}(d:∀x,(a x).length=b)(os:List c)(k:Nat):(os.flatMap a).drop (k*b)=(os.drop k).flatMap a:=by
 induction k generalizing os with
 | zero=>simp
 | succ k e=>
  cases os with
  | nil=>simp
  | cons x os=>
   rw[G2,List.drop_succ_cons,←e os,Cz,Nat.add_comm,←Qls,Qzc (by rw[d];exact Q1 _),(Qlt (by rw[d x];exact Q1 _):(a x).drop b=[]),Gf]
theorem Wr{a:Type}{enc:a→List Value}{sz:Nat}(c:∀x,(enc x).length=sz){os:List a}{i:Nat}{x:a}(h:os[i]?=some x):∀k v,(enc x)[k]?=some v→(os.flatMap enc)[i*sz+k]?=some v:=fun _ _ b=>flat_get c h b
def alls{a:Type}(os:List a)(F:a→Assn):Assn:=stars (os.map F)
theorem Ent.Fk{a:Type}(F:a→Assn)(Γ:List Assn):Ent Γ (alls [] F::Γ):=fun h b=>⟨HL.emp,h,HL.J2 _,HL.Hm _,HL.le.refl _,trivial,b⟩
theorem Ent.Cu{a:Type}(F:a→Assn)(x:a)(os:List a)(Γ:List Assn):Ent (F x::alls os F::Γ) (alls (x::os) F::Γ):=fun _ e=>(Wi (Γ:=(x::os).map F) (Δ:=Γ)).1 (by
 obtain⟨g,f,d,c,b,p,s⟩:=e;exact⟨g,f,d,c,b,p,Wi.2 s⟩)
theorem Ent.Ct{a:Type}(F:a→Assn)(x:a)(os:List a)(Γ:List Assn):Ent (alls (x::os) F::Γ) (F x::alls os F::Γ):=fun _ e=>by
 obtain⟨g,f,d,c,b,p,s⟩:=(Wi (Γ:=(x::os).map F) (Δ:=Γ)).2 e;exact⟨g,f,d,c,b,p,Wi.1 s⟩
theorem Ent.Cv{a:Type}(F:a→Assn)(os ps:List a)(Γ:List Assn):Ent (alls os F::alls ps F::Γ) (alls (os++ps) F::Γ):=fun _ b=>by
 have d:=(Wi (Γ:=os.map F)).2 b;have c:Ent (os.map F++(alls ps F::Γ)) (os.map F++(ps.map F++Γ)):=Ent.append _ fun _ h=>Wi.2 h;refine(Wi (Γ:=(os++ps).map F)).1 ?_;rw[Vc,Wb];exact c _ d
theorem Ent.Q1w{a:Type}(F:a→Assn)(os ps:List a)(Γ:List Assn):Ent (alls (os++ps) F::Γ) (alls os F::alls ps F::Γ):=fun _ c=>by
 have b:=(Wi (Γ:=(os++ps).map F)).2 c;rw[Vc,Wb]at b;have d:Ent (os.map F++(ps.map F++Γ)) (os.map F++(alls ps F::Γ)):=Ent.append _ fun _ h=>Wi.1 h;exact(Wi (Γ:=os.map F)).1 (d _ b)
theorem Ent.Zed{a:Type}(F:a→Assn)(x:a)(Γ:List Assn):Ent (F x::Γ) (alls [x] F::Γ):=((Ent.Fk F Γ).cons (F x)).trans (Ent.Cu F x [] Γ)
theorem Ent.Ew{a:Type}(F:a→Assn)(os:List a)(x:a)(Γ:List Assn):Ent (F x::alls os F::Γ) (alls (os++[x]) F::Γ):=((Ent.swap _ _ _).trans ((Ent.Zed F x Γ).cons _)).trans (Ent.Cv F os [x] Γ)
theorem Ent.Q1x{b a:Type}{F:b→Assn}{G:a→Assn}{os:List b}{ps:List a}(h:os.map F=ps.map G)(Γ:List Assn):Ent (alls os F::Γ) (alls ps G::Γ):=by
 unfold alls;rw[h];exact Ent.refl _
theorem Ent.U5{a:Type}(F:a→Assn){os:List a}{i:Nat}{x:a}(b:os[i]?=some x)(Γ:List Assn):Ent (alls os F::Γ) (F x::alls (os.take i) F::alls (os.drop (i+1)) F::Γ):=by
 obtain⟨c,rfl⟩:=Yz.1 b;have h:=Ent.Q1w F (os.take i) (os.drop i) Γ;rw[Qlr,R2 c]at h;exact(h.trans ((Ent.Ct F _ _ Γ).cons _)).trans (Ent.swap _ _ _)
theorem Ent.Xo{a:Type}(F:a→Assn){os:List a}{i:Nat}{x x':a}(b:os[i]?=some x)(Γ:List Assn):Ent (F x'::alls (os.take i) F::alls (os.drop (i+1)) F::Γ) (alls (os.set i x') F::Γ):=by
 obtain⟨c,rfl⟩:=Yz.1 b
 have h:os.set i x'=os.take i++(x'::os.drop (i+1)):=by
  rw[Zgg,Qh c]
 rw[h];exact((Ent.swap _ _ _).trans ((Ent.Cu F x' _ Γ).cons _)).trans (Ent.Cv F _ _ Γ)
theorem Ent.Xk{a:Type}(F:a→Assn){os:List a}{i:Nat}{x:a}(b:os[i]?=some x)(Γ:List Assn):Ent (F x::alls (os.take i) F::alls (os.drop (i+1)) F::Γ) (alls os F::Γ):=by
 have h:=Ent.Xo F (x':=x) b Γ;obtain⟨c,rfl⟩:=Yz.1 b
 rwa [List.set_getElem_self]at h
theorem Xs{a:Type}{l:List a}{i:Nat}(h:i<l.length):∃x,l[i]?=some x:=⟨l[i],Ju h⟩
theorem Qzk{a b:Type}(f:a→b)(l:List a)(i:Nat)(x:a)(h:l[i]?=some x):(l.take (i+1)).map f=(l.take i).map f++[f x]:=by
 obtain⟨c,rfl⟩:=Yz.1 h;rw[Zgh c,Vc];rfl
def bcells(l:List Int):List Value:=l.map (Value.int .u8)
theorem Qjy(l:List Int):(bcells l).length=l.length*1:=by simp[bcells]
theorem Qu7(l:List Int):∀u∈bcells l,u.oneCell'=true:=ints_oneCell .u8 l
def Zer(w:World)(v:Value)(l:List Int):Prop:=Ez w v l.length 1 (bcells l)
end Go.Proofs.YtdackcibfkkniaaGreatDoor
namespace Go.Proofs.YtdackcibfkkniaaGreatDoor
open Go.RowKit Go.ChangeShapes Go.WideShapes Go.ChangeAt Go.Deep
inductive TS where
 | int (k:IntKind)
 | bool
 | string
 | slice (sz:Nat) (e:TS)
 | nil
 | cat (n:Nat) (a b:TS)
def Rd(W:World):TS→List Value→Prop
 | .int k,c=>∃n,c=[.int k n]∧(Lit.int k n).wf=true
 | .bool,c=>∃b,c=[.bool b]
 | .string,c=>∃s:ByteArray,c=[.string s]∧s.size≤maxLen
 | .slice f e,c=>∃s:SV,c=[s.v]∧s.n≤s.c∧s.c≤maxLen∧(s.a=none→s.n=0∧s.c=0) ∧
   ∀i,i<s.n→∃a d,s.a=some a∧d.length=f∧(∀j,j<f→W.cell? (a.add (i*f+j))=d[j]?)∧Rd W e d
 | .nil,c=>c=[]
 | .cat n a b,c=>∃xs g,c=xs++g∧xs.length=n∧Rd W a xs∧Rd W b g
def Q0h(P:Program)(rec:TypeId→TS→Bool):List Field→Nat→TS→Option Nat
 | [],off,.nil=>some off
 | f::c,off,.cat m a b=>if f.offset==off&&P.cellsOf f.type==m&&rec f.type a then Q0h P rec c (off+m) b else none
 | _,_,_=>none
def Qo8(P:Program):Nat→TypeId→TS→Bool
 | 0,_,_=>false
 | n+1,t,s=>match P.underlying t,s with
  | some (.int k),.int b=>k==b
  | some .bool,.bool=>true
  | some .string,.string=>true
  | some (.slice e),.slice a d=>P.cellsOf e==a&&Qo8 P n e d
  | some (.struct c),s=>Q0h P (Qo8 P n) c.toList 0 s==some (P.cellsOf t)
  | _,_=>false
section
variable {H:Type}{enc:TypeId×Value→H}{P:Program}{W:World}
theorem Qzz{n d base:Nat}{sp:Nat→Bool}{held:Bool}(p:∀(t:TypeId) (s:TS) (e:List Value) (x:DataW H×List MemPlace),Qo8 P n t s=true→DataW.trod enc P W base sp held d t e=some x→Rd W s e)
  (e:List Value):∀(g:List Field) (off:Nat) (s:TS) (c:Nat),Q0h P (Qo8 P n) g off s=some c→c=e.length→(∀f∈g,∃x,DataW.trod enc P W base sp held d f.type ((e.drop f.offset).take (P.cellsOf f.type))=some x)→Rd W s (e.drop off)∧off≤c:=by
 intro g;induction g with
 | nil=>
  intro off s c h k _;cases s <;> simp[Q0h]at h
  subst h k;exact⟨by simp[Rd],Q1 _⟩
 | cons f g i=>
  intro off s c h k o;cases s <;> simp[Q0h]at h
  case cat m a b=>
   obtain⟨⟨⟨v,u⟩,r⟩,q⟩:=h;obtain⟨g1,g2⟩:=i (off+m) b c q k (fun w l=>o w (by simp[l]));obtain⟨x,j⟩:=o f Q2;have:=p _ _ _ _ r j;rw[v,u]at this
   refine⟨⟨(e.drop off).take m,e.drop (off+m),?_,?_,this,g1⟩,Qb⟩
   ·rw[←Qls,Qlr]
   ·rw[V9,R4];omega
theorem Qtc{base:Nat}{sp:Nat→Bool}{held:Bool}:∀(n c:Nat) (t:TypeId) (s:TS) (o:List Value) (x:DataW H×List MemPlace),Qo8 P n t s=true→DataW.trod enc P W base sp held c t o=some x→Rd W s o:=by
 intro n;induction n with
 | zero=>intro c t s o x h;cases h
 | succ n C=>
  intro c t s o x h g;unfold Qo8 at h;cases l:P.underlying t with
  | none=>rw[l]at h;simp at h
  | some d=>
   rw[l]at h;cases d <;> try (simp at h;done)
   case int k=>
    cases s <;> simp at h
    subst h;obtain⟨n,r,_,K⟩:=DataW.trod_int l g;exact⟨n,r,K⟩
   case bool=>
    cases s <;> simp at h
    obtain⟨b,r,_⟩:=DataW.trod_bool l g;exact⟨b,r⟩
   case string=>
    cases s <;> simp at h
    cases c with
    | zero=>simp[DataW.trod]at g
    | succ f=>
     unfold DataW.trod at g;rw[l]at g;split at g <;> simp_all [Rd]
   case slice e=>
    cases s <;> simp at h
    case slice N Q=>
     obtain⟨r,L⟩:=h
     rcases open_slice l g with ⟨z,_⟩|⟨a,len,cap,m,k,D,R,z,O,v,G,u,_,F⟩
     ·exact⟨SV.nil,z,Q1 _,Xq _,fun _=>⟨rfl,rfl⟩,fun i p=>absurd p (Qo0 _)⟩
     ·refine⟨⟨some a,len,cap⟩,z,v,G,fun h=>(by cases h),fun i p=>?_⟩;have w:i<m:=by rw[u];simp only at p;split <;> omega
      obtain⟨B,g1,g2⟩:=F i w;rw[r]at g1;obtain⟨_,gl,gc⟩:=World.cells?_some g1;refine⟨a,B,rfl,gl,fun j I=>?_,C _ _ _ _ _ L g2⟩;have:=gc j I
      rwa [Go.Deep.add_add]at this
   case struct A=>
    obtain⟨xs,m,rfl,_,v,E,J⟩:=DataW.trod_struct l g;have M:Q0h P (Qo8 P n) A.toList 0 s=some (P.cellsOf t):=by simpa using h
    have:=(Qzz (W:=W) (enc:=enc) (base:=base) (sp:=sp) (held:=held) (fun t s o x=>C m t s o x) o A.toList 0 s _ M v.symm ?_).1
    ·simpa using this
    ·intro f y;obtain⟨i,p,rfl⟩:=Pq y;simp only[Mk]at p;have q:=J i A.toList[i] (by simp[p]);rw[Ju Qb]at q;exact⟨_,q⟩
theorem Qu0{w:World}{a:Addr}{v:Value}(h:w.cell? a=some v):a.spot=none∧a.block<w.heap.size:=by
 unfold World.cell? at h
 split at h
 ·rename_i c e f d;refine⟨?_,(Qwe.1 d).1⟩;cases b:a.spot with
  | none=>rfl
  | some s=>simp[b]at h
 ·cases h
theorem Q30{α:Type}[Inhabited α]{encA:α→List Value}{p:α→Prop}{b:Nat}{e:TS}{m:List Value}(h:∀m,Rd W e m→m.length=b→∃x,m=encA x∧p x)(z:Rd W (.slice b e) m)(B:0<b) :
  ∃(s:SV) (xs:List α),m=[s.v]∧s.n=xs.length∧Ez W s.v xs.length b (xs.flatMap encA)∧(∀x∈xs,p x)∧(∀x∈xs,(encA x).length=b):=by
 obtain⟨s,R,V,U,T,S⟩:=z
 have each:∀i,i<s.n→∃x:α,(∀a,s.a=some a→∀j,j<b→W.cell? (a.add (i*b+j))=(encA x)[j]?)∧p x∧(encA x).length=b:=by
  intro i g;obtain⟨a,J,A,c,X,I⟩:=S i g;obtain⟨x,rfl,P⟩:=h J I c;exact⟨x,fun Z w j Q=>by rw[A]at w;cases w;exact X j Q,P,c⟩
 obtain⟨f,v⟩:=choose_lt each
 have M:∀x∈(List.range s.n).map f,∃i,i<s.n∧f i=x:=fun x o=>by
  obtain⟨i,g,rfl⟩:=Qq.1 o;exact⟨i,by simpa using g,rfl⟩
 have k:∀x∈(List.range s.n).map f,(encA x).length=b:=fun x o=>by obtain⟨i,g,rfl⟩:=M x o;exact(v i g).2.2
 refine⟨s,(List.range s.n).map f,R,Q2,?_,fun x o=>by obtain⟨i,g,rfl⟩:=M x o;exact(v i g).2.1,k⟩
 have t:∀l:List α,(∀x∈l,(encA x).length=b)→(l.flatMap encA).length=l.length*b:=by
  intro l;induction l with
  | nil=>intro _;simp
  | cons x l C=>
   intro c;rw[G2,Yd,c x Q2,C (fun y F=>c y (by simp[F])),Ka,Cz];omega
 have K:∀(l:List α),(∀x∈l,(encA x).length=b)→∀(q:Nat) (u:Value),(l.flatMap encA)[q]?=some u→∃x,l[q / b]?=some x∧(encA x)[q % b]?=some u:=by
  intro l;induction l with
  | nil=>intro _ q u h;simp at h
  | cons x l C=>
   intro c q u d;rw[G2]at d
   by_cases L:q<b
   ·rw[Qlv (by rw[c x Q2];exact L)]at d;exact⟨x,by rw[Qwd L];rfl,by rw[Qbh L];exact d⟩
   ·rw[Qlu (by rw[c x Q2];omega),c x Q2]at d;obtain⟨y,E,D⟩:=C (fun y F=>c y (by simp[F])) _ _ d
    refine⟨y,?_,?_⟩
    ·have:q / b=(q-b) / b+1:=by
      rw[←Nat.add_div_right _ B,Nat.sub_add_cancel Qb]
     rw[this];simpa using E
    ·rw[Qy5 Qb];exact D
 have N:((List.range s.n).map f).length=s.n:=Q2
 rw[N];refine⟨by rw[t _ k,N],s.a,s.c,rfl,V,U,T,fun a A h0=>?_⟩;have c0:=(v 0 h0).1 a A 0 B;obtain⟨Y,H⟩:∃u,(encA (f 0))[0]?=some u:=⟨_,Ju (by rw[(v 0 h0).2.2];exact B)⟩;rw[H]at c0;obtain⟨g1,g2⟩:=Qu0 c0;simp only[Qix,Qj2]at g1 g2;have O:a.add 0=a:=by simp[Addr.add]
 rw[O]at g1 g2;refine⟨g1,g2,fun q u d=>?_⟩;obtain⟨x,n,G⟩:=K _ k q u d;rw[Q8]at n
 have r:q / b<s.n:=by
  cases z:(List.range s.n)[q / b]? with
  | none=>rw[z]at n;cases n
  | some i=>have:=Yz.1 z;simpa using this.1
 rw[List.getElem?_range r]at n;simp only[U3,Km]at n;subst n;have:=(v _ r).1 a A (q % b) (Qiz _ B);rw[G,Nat.div_add_mod' q b]at this
 rwa [show a=(⟨a.block,a.off,none⟩:Addr) by rw[←g1],Addr.add_lit]at this
structure BW(W:World)(s:SV)(l:List Int):Prop where
 at_:Zer W s.v l
 len:s.n=l.length
 rng:∀x∈l,0≤x∧x≤255
theorem Mm{n:Int}(h:(Lit.int .u8 n).wf=true):0≤n∧n≤255:=by simpa [Lit.wf,IntKind.min,IntKind.max,IntKind.signed,IntKind.bits] using h
theorem F1{s:SV}{m f:Nat}{xs:List Value}(h:Ez W s.v m f xs)(g:0<m):∃b off,s.a=some ⟨b,off,none⟩∧∀j u,xs[j]?=some u→W.cell? ⟨b,off+j,none⟩=some u:=by
 obtain⟨_,n,c,e,_,_,k,i⟩:=h;simp only[SV.v,Value.slice.injEq]at e;obtain⟨rfl,_,rfl⟩:=e;cases d:s.a with
 | none=>have:=(k d).1;omega
 | some a=>
  obtain⟨g1,_,l⟩:=i a d g;exact⟨a.block,a.off,by rw[←g1],l⟩
theorem Tp{s:SV}{m b:Nat}{xs:List Value}(h:Ez W s.v m b xs):s.n=m∧s.n≤s.c∧s.c≤maxLen:=by
 obtain⟨_,f,c,a,e,d,_⟩:=h;simp only[SV.v,Value.slice.injEq]at a;obtain⟨_,rfl,rfl⟩:=a;exact⟨rfl,e,d⟩
structure BR where
 v:SV
 l:List Int
instance:Inhabited BR:=⟨⟨SV.nil,[]⟩⟩
end
section
variable {P:Program}{n:Nat}{md:Bool}{w0:WM md}{ρ:Env}{Γ:List Assn}{Q:Exit→Act→World→Prop}{K:Act→World→Prop}{ty:TypeId}{pos:String}{af:Array Edge}{gd:Option (Nat×Bool)}{d:Nat}{ds:Option Tmp}
theorem Qp3{x y:Operand}{c:Array TypeId}{k:IntKind}{p q:Int}(r:Int)(f:ev ρ x=some (.int k p))(d:ev ρ y=some (.int k q))(h:r≤p∧r≤q∧(r=p∨r=q)):Qv P n ρ Γ ⟨ds,.call {callee:=.builtin .min,args:=#[x,y],argTypes:=c},ty,pos,af,gd⟩ (.int k r):=fun a w b _=>by
 have e:(if q<p then q else p)=r:=by split <;> omega
 simp[execOp,b.ev f,b.ev d,resolve,invoke,builtin,run_min_int2,e]
theorem Qd0{x y:Operand}{c:Array TypeId}{k:IntKind}{p q:Int}(r:Int)(f:ev ρ x=some (.int k p))(d:ev ρ y=some (.int k q))(h:p≤r∧q≤r∧(r=p∨r=q)):Qv P n ρ Γ ⟨ds,.call {callee:=.builtin .max,args:=#[x,y],argTypes:=c},ty,pos,af,gd⟩ (.int k r):=fun a w b _=>by
 have e:(if p<q then q else p)=r:=by split <;> omega
 simp[execOp,b.ev f,b.ev d,resolve,invoke,builtin,run_max_int2,e]
theorem Zef(p:Option Addr):p.map (fun x=>x.add 0)=p:=by cases p <;> simp[Addr.add]
theorem Qb4{t e d:Nat}{x y:Operand}{p:Option Addr}{l c:Nat}{kk:IntKind}{z:Int}(m:Nat)(k:Nw P t=some (e,d))(h:ev ρ x=some (.slice p l c))(g:ev ρ y=some (.int kk z))(f:z=((m:Nat):Int))(o:m≤c):Qv P n ρ Γ ⟨ds,.slice t x none (some y) none,ty,pos,af,gd⟩ (.slice p m c):=by
 intro a w b _;subst f;obtain⟨j,i,q,rfl⟩:=S0 k;simp[execOp,b.ev h,b.ev g,Instr.sliceAt,Instr.slice,run_underlying j,Instr.sliceBounds,Instr.sliceBound,asIntOf,o,sizeOf,typeInfo,q,Zef]
theorem Qw(l:List Int):Ee (bcells l)=true:=Kn.2 (Qu7 l)
theorem S.Ev{t e h g:Nat}{j:List Value}(l:P.underlying t=some (.slice e))(b:Kt P e=some (j,h,g))(p:Nat.blt d n=true)(k:∀s:SV,s.n=0→S n w0 ((d,s.v)::ρ) (own s e h []::Γ) K) :
  S n w0 ρ Γ (Ow P Q ⟨some d,.buildSlice t 0 #[],ty,pos,af,gd⟩ K):=by
 intro a w q m c;unfold Kt at b;split at b
 case h_2=>cases b
 rename_i i f;split at b
 case h_2=>cases b
 simp only[Km,Hx]at b;obtain⟨_,rfl,rfl⟩:=b
 have o:(execOp a.eval ⟨some d,.buildSlice t 0 #[],ty,pos,af,gd⟩).run P w=.ok (.value (.slice (some ⟨w.heap.size,0,none⟩) 0 0)) (w.alloc (.cells #[] e)):=by
  simp[execOp,Instr.buildSlice,run_underlying l,sizeOf,typeInfo,f,Instr.fill,newRow,Array.range_zero']
 unfold Ow Oper.wp;rw[o,Oper.upon_value];refine k ⟨some ⟨w.heap.size,0,none⟩,0,0⟩ rfl _ _ (q.put p _) ?_ (c.alloc _);refine(m.alloc e #[]).Qs (Ent.Kg _ fun x c=>⟨Q2,.inr ⟨w.heap.size,0,#[],rfl,c,Q1 _,Xq _,Q2,Q2⟩⟩)
theorem Th(a:List Value):∀ {l c:Nat},l≤c→(X8 a c).take (l*a.length)=X8 a l
 | 0,_,_=>by simp[X8]
 | l+1,0,h=>by omega
 | l+1,c+1,h=>by
  have b:=Th a (l:=l) (c:=c) Qb;unfold X8;rw[Cz,Nat.add_comm,Qje,Dh Qb,Q9g,b]
theorem S.makeSlice{t e v r:Nat}{x y:Operand}{B:List Value}{U T:IntKind}{p q:Int}(l c:Nat)(O:P.underlying t=some (.slice e))(j:Kt P e=some (B,v,r))(g:(Nat.beq B.length v&&Nat.blt 0 v)=true)(A:ev ρ x=some (.int U p))(Z:p=((l:Nat):Int))(N:ev ρ y=some (.int T q))(Y:q=((c:Nat):Int))(m:l≤c)
  (hc:r*c≤140737488355328∧c≤140737488355328) (hn:Nat.blt d n=true) (k:∀s:SV,s.n=l→S n w0 ((d,s.v)::ρ) (own s e v (X8 B l)::Γ) K) :
  S n w0 ρ Γ (Ow P Q ⟨some d,.makeSlice t x y,ty,pos,af,gd⟩ K):=by
 intro a w o W Nu;subst Z Y;unfold Kt at j;split at j
 case h_2=>cases j
 rename_i i f;split at j
 case h_2=>cases j
 rename_i z V;simp only[Km,Hx]at j;obtain⟨rfl,rfl,rfl⟩:=j;simp only[Z5]at g;have b:z.cells.toList.length=i.size:=Qbk g.1;have u:0<z.cells.toList.length:=by rw[b];have:=g.2;simp[Nat.blt]at this;omega
 have E:IntKind.i64.wrap (l:Int)=l:=G6 (Xy Qb Qb);have D:IntKind.i64.wrap (c:Int)=c:=G6 (Xy Qb Qb);have M:=Rj z.cells.toList u c;rw[b]at M
 have L:¬((i.bytes:Int)*(c:Int) > 2 ^ 48):=by
  have:=hc.1;have h1:((i.bytes*c:Nat):Int)≤140737488355328:=Qb
  rw[Int.natCast_mul]at h1;omega
 have X:(execOp a.eval ⟨some d,.makeSlice t x y,ty,pos,af,gd⟩).run P w=.ok (.value (.slice (some ⟨w.heap.size,0,none⟩) l c)) (w.alloc (.cells (X8 z.cells.toList c).toArray e)):=by
  have ht:(decide ((c:Int)<0) || decide ((i.bytes:Int)*(c:Int) > 2 ^ 48))=false:=by simp;omega
  have H:¬((l:Int)<0):=Qb
  have R:¬((l:Int) > (c:Int)):=Qb
  have a0:¬(c*i.bytes > 140737488355328):=by rw[Nat.mul_comm];omega
  have C:(zeroValue e).run P w=.ok z w:=by simp[zeroValue,typeInfo,f,V]
  by_cases h0:c*i.size=0
  ·have:c=0:=by
    rcases Nat.mul_eq_zero.1 h0 with h|h
    ·exact h
    ·rw[Mk]at u b;omega
   subst this;have:l=0:=Qb
   subst this;have F:IntKind.i64.wrap 0=0:=Qp
   simp[execOp,o.ev A,o.ev N,Instr.makeSlice,run_underlying O,asInt,asIntOf,typeInfo,f,F,askRoom,roomBytes,sizeOf,newRow,X8,Array.range_zero']
  ·have G:(typeInfo e).run P w=.ok i w:=by simp[typeInfo,f]
   have C7:(sizeOf e).run P w=.ok i.size w:=by simp[sizeOf,typeInfo,f]
   have I:¬((c:Int)<0):=Qb
   have J:¬(281474976710656<(i.bytes:Int)*(c:Int)):=by simpa using L
   simp only[Q85]at M;simp[execOp,o.ev A,o.ev N,Instr.makeSlice,run_underlying O,asInt,asIntOf,G,C7,E,D,askRoom,roomBytes,newRow,I,J,H,h0,C,M];intro h;omega
 unfold Ow Oper.wp;rw[X,Oper.upon_value];refine k ⟨some ⟨w.heap.size,0,none⟩,l,c⟩ rfl _ _ (o.put hn _) ?_ (Nu.alloc _);refine(W.alloc e _).Qs (Ent.Kg _ fun x A=>⟨by rw[D4,b],.inr ⟨w.heap.size,0,_,rfl,A,m,by unfold maxLen;simp only;omega,by simp[D4,b],by rw[←b];simpa using Th z.cells.toList m⟩⟩)
end
end Go.Proofs.YtdackcibfkkniaaGreatDoor
namespace Go.Proofs.YtdackcibfkkniaaGreatDoor
open Go.RowKit Go.ChangeShapes Go.WideShapes Go.ChangeAt Go.Deep
def Znt(f:FuncId)(args:List Value)(W:World):Prop:=Spec Tryz.prog f args [Wo W] fun b v a=>v=.bool true∧a=Wo W::b
theorem Zch{f:FuncId}{args:List Value}{W:World}(h:Znt f args W):Calls Tryz.prog f args.toArray W fun e l=>e=.returned (.bool true)∧Below W.heap.size W l:=by
 have i:Sat W ([Wo W]++[]):=⟨HL.of W,HL.le.refl _,HL.of W,HL.emp,fun b=>.inr rfl,HL.le.refl _,HL.Hm _,fun _ _ h=>h,trivial⟩;refine(h [] W i).mono ?_;rintro e g ⟨v,m,rfl,⟨rfl,rfl⟩,c,a⟩;refine⟨rfl,a.os,a.tape,a.output,a.size,fun k d=>?_⟩;have j:Dc [Wo W] W:=inferInstance;have:=j.sat g c k W.heap[k] (R3 d);rw[this,R3 d]
theorem Spec.weaken{P:Program}{f:FuncId}{args:List Value}{pre b:List Assn}{post a:List Assn→Value→List Assn→Prop}(h:Spec P f args pre post)(k:∀i,∃g,Ent (b++i) (pre++g)∧∀v d,post g v d→∃c,a i v c∧Ent d c):Spec P f args b a:=by
 intro i w m;obtain⟨g,r,q⟩:=k i;refine(h g w (m.Qs r)).mono ?_;rintro e s ⟨v,d,rfl,n,j,l⟩;obtain⟨c,p,o⟩:=q v d n;exact⟨v,c,rfl,p,j.Qs o,l⟩
section
variable {H:Type}{enc:TypeId×Value→H}{P:Program}{W:World}{b0:Nat}{r:Reach}{sp:Nat→Bool}{held:Bool}{base:Nat}
theorem Qff{t:TypeId}{k:IntKind}{v:Value}{d:DataW H}{ps:List MemPlace}(b:P.underlying t=some (.int k))(a:Value.okWide P W r b0 t v)(c:DataW.Trod enc P W base sp held t v d ps):∃n,v=.int k n∧(Lit.int k n).wf=true:=by
 obtain⟨n,f,_,_,e⟩:=open_int b a c;exact⟨n,f,e⟩
theorem Q1v{t e:TypeId}{s:TS}{v:Value}{d:DataW H}{ps:List MemPlace}(n:Nat)(h:P.underlying t=some (.slice e))(f:Qo8 P n t s=true)(g:Value.okWide P W r b0 t v)(j:DataW.Trod enc P W base sp held t v d ps):Rd W s [v]:=by
 obtain⟨a,l,c,rfl⟩:=okWide_slice h g;obtain⟨b,i⟩:=j;exact Qtc n b t s _ _ f i
end
def J4(P:Program)(f:FuncId)(args:List Value)(W:World)(v:Value):Prop:=Spec P f args [Wo W] (fun Γ r a=>r=v∧a=Wo W::Γ) true
theorem pure_run{P:Program}{f:FuncId}{args:List Value}{W:World}{v:Value}(h:J4 P f args W v):Calls P f args.toArray W fun e g=>e=.returned v∧Below W.heap.size W g∧W.drawn≤g.drawn:=by
 have j:Sat W ([Wo W]++[]):=⟨HL.of W,HL.le.refl _,HL.of W,HL.emp,fun b=>.inr rfl,HL.le.refl _,HL.Hm _,fun _ _ h=>h,trivial⟩;refine(h [] W j).mono ?_;rintro e i ⟨v,m,rfl,⟨rfl,rfl⟩,c,a⟩;refine⟨rfl,⟨a.os,a.tape,a.output,a.size,fun k d=>?_⟩,a.drawn rfl⟩;have l:Dc [Wo W] W:=inferInstance;have:=l.sat i c k W.heap[k] (R3 d);rw[this,R3 d]
theorem Sat.Zjs{w c:World}{Γ:List Assn}(h:Sat w Γ)(d:Below w.heap.size w c):Sat c Γ:=by
 obtain⟨x,l,s⟩:=h;refine⟨x,fun b o e=>?_,s⟩;have a:=l b o e;unfold HL.of at a ⊢;rw[d.block b (Qwe.1 a).1];exact a
section
variable {P:Program}{n:Nat}{md:Bool}{w0:WM md}{ρ:Env}{Γ:List Assn}{Q:Exit→Act→World→Prop}{K:Act→World→Prop}{ty:TypeId}{pos:String}{af:Array Edge}{gd:Option (Nat×Bool)}{d:Nat}
theorem S.K9{f:FuncId}{xs:List Operand}{i:Array TypeId}{vs:List Value}{v:Value}(r:Jj P f=true)(b:EvL ρ xs vs)(h:∀w,Sat w Γ→J4 P f vs w v)(q:Nat.blt d n=true)
  (k:S n w0 ((d,v)::ρ) Γ K):S n w0 ρ Γ (Ow P Q ⟨some d,.call {callee:=.value (.func f),args:=xs.toArray,argTypes:=i},ty,pos,af,gd⟩ K):=by
 intro a w m j o;have p:=Qkc (ty:=ty) (pos:=pos) (af:=af) (gd:=gd) (c:={callee:=.value (.func f),args:=xs.toArray,argTypes:=i}) (a:=a) (ds:=some d) (vs:=vs) r rfl ⟨_,rfl⟩ (by simp[b.map m]) w;unfold Ow Oper.wp;rw[p,Oper.upon_enter];refine(pure_run (h w j)).mono ?_;rintro e s ⟨rfl,g,l⟩;exact k _ _ (m.put q v) (j.Zjs g) (o.trans ⟨g.os,g.tape,g.output,g.size,l⟩)
end
def Rng(l:List Int):Prop:=∀x∈l,0≤x∧x≤255
section
variable {P:Program}{n:Nat}{md:Bool}{w0:WM md}{ρ:Env}{Γ:List Assn}{Q:Exit→Act→World→Prop}{K:Act→World→Prop}{ty:TypeId}{pos:String}{af:Array Edge}{gd:Option (Nat×Bool)}{d:Nat}{ds:Option Tmp}
theorem Qs7{f:FuncId}{vs h i:List Value}{c:Call}{x:Operand}{a:Act}{ds:Option Tmp}(d:Jj P f=true)(j:c.callee=.value x)(k:a.eval x=.func (.func f) h.toArray i.toArray)(b:c.args.map a.eval=vs.toArray)(w:World) :
  (execOp a.eval ⟨ds,.call c,ty,pos,af,gd⟩).run P w=.ok (.enter f (h++vs++i).toArray) w:=by
 unfold Jj at d
 split at d
 ·rename_i fn e;simp only[Z5,Qbi,Mj]at d;obtain⟨n,m⟩:=d;have g:¬fn.body=none:=by cases l:fn.body <;> simp[l]at m ⊢
  simp[execOp,resolve,j,k,Deferred.ofValue,invoke,b,callFunc,e,n,g]
 ·cases d
theorem S.Qyt{f:FuncId}{x:Operand}{xs:List Operand}{h:Array TypeId}{vs fs cs:List Value}{pre j:List Assn}{post:List Assn→Value→List Assn→Prop}(y:Jj P f=true)(q:ev ρ x=some (.func (.func f) fs.toArray cs.toArray))(g:EvL ρ xs vs)
  (r:Spec P f (fs++vs++cs) pre post md) [t:Picks pre Γ j] (u:Nat.blt d n=true)
  (k:∀v i,post j v i→S n w0 ((d,v)::ρ) i K):S n w0 ρ Γ (Ow P Q ⟨some d,.call {callee:=.value x,args:=xs.toArray,argTypes:=h},ty,pos,af,gd⟩ K):=by
 intro a w m p z;have s:=Qs7 (ty:=ty) (pos:=pos) (af:=af) (gd:=gd) (c:={callee:=.value x,args:=xs.toArray,argTypes:=h}) (a:=a) (ds:=some d) (vs:=vs) y rfl (m.ev q) (by simp[g.map m]) w;unfold Ow Oper.wp;rw[s,Oper.upon_enter];refine(r j w (p.Qs t.Qs)).mono ?_;rintro e A ⟨v,i,rfl,o,b,l⟩;exact k v i o _ _ (m.put u v) b (z.Qs1 l)
theorem Qw2{t yt:TypeId}{x y:Operand}{k c:IntKind}{p q:Int}(m:Nat)(f:ev ρ x=some (.int k p))(d:ev ρ y=some (.int c q))(g:q=((m:Nat):Int))(h:Nat.ble m k.bits=true):Qv P n ρ Γ ⟨ds,.binOp .shr t x y yt,ty,pos,af,gd⟩ (.int k (p / 2 ^ m)):=fun a w b _=>by
 subst g;have h0:¬((m:Int)<0):=Qb
 have i:min m k.bits=m:=Ny (Qbj h);have e:Int.fdiv p (2 ^ m)=p / 2 ^ m:=Int.fdiv_eq_ediv_of_nonneg _ (by have:(0:Int)<2 ^ m:=Int.pow_pos Qb;omega);simp[execOp,b.ev f,b.ev d,eqGuard,binOp,Op.shift,h0,i,e]
end
theorem Sat.Qg5{w n:World}{s g:SV}{e:TypeId}{o:Nat}{xs f:List Value}{v:List Assn}{b:Nat}(B:Sat w (own s e o xs::v))(C:Own n e o g.v g.n f (some b))(c:s.a.map (·.block)=some b)(keep:Keeps (fun k=>k=b) w n):Sat n (own g e o f::v):=by
 obtain⟨a,x⟩:=own.Q4y (s:=g) C;refine B.upd fun q l p=>?_
 have y:∀k,q k=none→w.heap[k]?≠none→k≠b:=by
  intro k z _ e1
  rcases p.2 with ⟨h,_⟩|⟨u,off,d,h,i,_⟩
  ·rw[h]at c;cases c
  ·rw[h]at c;simp only[U3,Km]at c;subst c;rw[e1,i]at z;cases z
 have D:∀b,w.heap[b]?≠none→b<w.heap.size:=fun b c=>by
  rcases Nz b w.heap.size with h|h
  ·exact h
  ·simp[Array.getElem?_eq_none h]at c
 rcases x.2 with ⟨j,i,E⟩|⟨u,off,d,j,i,r⟩
 ·rw[j]at a;cases a
 ·refine⟨HL.one u (.cells d e),HL.one_le i,⟨x.1,.inr ⟨u,off,d,j,HL.Vf _ _,r⟩⟩,fun m A t=>⟨HL.Kr fun e1=>?_,keep.block m (D m t) (y m A t)⟩⟩;subst e1;rw[j]at a;simp only[U3,Km]at a;exact y m A t a.symm
section
variable {P:Program}{n:Nat}{md:Bool}{w0:WM md}{ρ:Env}{Γ:List Assn}{Q:Exit→Act→World→Prop}{K:Act→World→Prop}{ty:TypeId}{pos:String}{af:Array Edge}{gd:Option (Nat×Bool)}{d:Nat}{ds:Option Tmp}
theorem Zbg{t a:TypeId}{x y:Operand}{k b:IntKind}{p q:Int}(m:Nat)(r:Int)(d:ev ρ x=some (.int k p))(c:ev ρ y=some (.int b q))(f:q=((m:Nat):Int))(g:Nat.ble m k.bits=true)(e:p / 2 ^ m=r):Qv P n ρ Γ ⟨ds,.binOp .shr t x y a,ty,pos,af,gd⟩ (.int k r):=by
 subst e;exact Qw2 m d c f g
theorem Qp2{t e b:Nat}{x y:Operand}{p:Option Addr}{l c:Nat}{kk:IntKind}{z:Int}(m:Nat)(k:Nw P t=some (e,b))(h:ev ρ x=some (.slice p l c))(g:ev ρ y=some (.int kk z))(f:z=((m:Nat):Int))(o:m≤l):Qv P n ρ Γ ⟨ds,.slice t x (some y) none none,ty,pos,af,gd⟩ (.slice (if c=m then p else p.map (·.add (m*b))) (l-m) (c-m)):=by
 intro a w d _;subst f;obtain⟨j,i,q,rfl⟩:=S0 k;simp[execOp,d.ev h,d.ev g,Instr.sliceAt,Instr.slice,run_underlying j,Instr.sliceBounds,Instr.sliceBound,asIntOf,o,sizeOf,typeInfo,q]
end
open Go.MapKept (run_checkKey run_findKey run_keyThatStays heap_set)
theorem Vr{α a:Type}(f:α→a)(l:List α)(k:Nat):(l.eraseIdx k).map f=(l.map f).eraseIdx k:=by
 rw[Qdq,Qdq,Vc,List.map_take,List.map_drop]
def Jl{α:Type}(z:Int):List (Int×α)→Nat→Option (Nat×α)
 | [],_=>none
 | x::l,i=>if z=x.1 then some (i,x.2) else Jl z l (i+1)
def Yh{α:Type}(z:Int):List (Int×α)→Option α
 | []=>none
 | x::l=>if z=x.1 then some x.2 else Yh z l
def Xl{α:Type}(z:Int)(v:α):List (Int×α)→List (Int×α)
 | []=>[(z,v)]
 | x::l=>if z=x.1 then (z,v)::l else x::Xl z v l
def Ge{α:Type}(z:Int):List (Int×α)→List (Int×α)
 | []=>[]
 | x::l=>if z=x.1 then l else x::Ge z l
section
variable {α:Type}
theorem Hn(z:Int):∀(l:List (Int×α)) (i:Nat),(Jl z l i).map (·.2)=Yh z l
 | [],_=>rfl
 | x::l,i=>by
  unfold Jl Yh
  split
  ·rfl
  ·exact Hn z l (i+1)
theorem Kv{z:Int}:∀ {l:List (Int×α)} {i j:Nat} {v:α},Jl z l i=some (j,v)→∃k,j=i+k∧l[k]?=some (z,v)∧(∀w,Xl z w l=l.set k (z,w))∧Ge z l=l.eraseIdx k
 | [],_,_,_,h=>by cases h
 | x::l,i,j,v,h=>by
  unfold Jl at h
  split at h
  ·rename_i e;cases h;exact⟨0,rfl,by simp[e],fun w=>by simp[Xl,e],by simp[Ge,e]⟩
  ·rename_i e;obtain⟨k,d,c,b,a⟩:=Kv h;exact⟨k+1,Qb,by simpa using c,fun w=>by simp[Xl,e,b],by simp[Ge,e,a]⟩
theorem G1{z:Int}:∀ {l:List (Int×α)} {i:Nat},Jl z l i=none→(∀w,Xl z w l=l++[(z,w)])∧Ge z l=l∧z∉l.map (·.1)
 | [],_,_=>⟨fun _=>rfl,rfl,Q2⟩
 | x::l,i,h=>by
  unfold Jl at h
  split at h
  ·cases h
  ·rename_i e;obtain⟨c,b,a⟩:=G1 h;exact⟨fun w=>by simp[Xl,e,c],by simp[Ge,e,b],by simp only[Z7,Yf,not_or];exact⟨e,a⟩⟩
theorem Hu(z y:Int)(v:α):∀l:List (Int×α),Yh y (Xl z v l)=if y=z then some v else Yh y l
 | []=>by simp[Xl,Yh]
 | x::l=>by
  unfold Xl
  split
  ·rename_i e;subst e;simp only[Yh];split <;> rfl
  ·rename_i e;simp only[Yh,Hu z y v l]
   by_cases h:y=x.1
   ·rw[Qh h,Qe (fun (e2:y=z)=>e (e2 ▸ h)),Qh h]
   ·rw[Qe h,Qe h]
theorem Pc{z:Int}:∀ {l:List (Int×α)},z∉l.map (·.1)→Yh z l=none
 | [],_=>rfl
 | x::l,h=>by
  simp only[Z7,Yf,not_or]at h;unfold Yh;rw[Qe h.1];exact Pc h.2
end
structure Kj(kk:IntKind)(l:List (Int×Value))(es:List MapEntry)(clock:Nat):Prop where
 Qs:es.map (fun e=>(e.key,e.val))=l.map (fun x=>(Value.int kk x.1,x.2))
 nd:(l.map (·.1)).Nodup
 born:es.Pairwise (fun a b=>a.born<b.born)
 lt:∀e∈es,e.born<clock
def Qz(b:Nat)(kk:IntKind)(l:List (Int×Value)):Assn:=fun h=>∃a clock,h b=some (.map a clock)∧Kj kk l a.toList clock
def Zb5(b:Nat)(kk:IntKind)(l:List (Int×Value))(z:Int)(s:Nat):Assn:=fun h=>∃a clock,h b=some (.map a clock)∧Kj kk l a.toList clock∧∃(i:Nat) (e:MapEntry),a.toList[i]?=some e∧e.key=.int kk z∧e.born=s
theorem Kj.find{kk q:IntKind}(z:Int):∀ {a:List MapEntry} {l:List (Int×Value)},a.map (fun e=>(e.key,e.val))=l.map (fun x=>(Value.int kk x.1,x.2))→∀i,Instr.findNow (.int q) (.int kk z) a i=some (Jl z l i)
 | [],[],_,_=>rfl
 | [],_::_,h,_=>by cases h
 | _::_,[],h,_=>by cases h
 | e::a,x::l,h,i=>by
  simp only[Z7,Hw,Hx]at h;obtain⟨⟨d,c⟩,b⟩:=h;unfold Instr.findNow Jl;simp only[d,Instr.sameNow,C0]
  by_cases e2:z=x.1
  ·simp[e2,c]
  ·have:(z==x.1)=false:=by simpa using e2
   simp only[this,Qe e2];exact Kj.find z b (i+1)
theorem Kj.at{kk:IntKind}{l:List (Int×Value)}{a:List MapEntry}{clock:Nat}(h:Kj kk l a clock){k:Nat}{z:Int}{v:Value}(c:l[k]?=some (z,v)):∃e,a[k]?=some e∧e.key=.int kk z∧e.val=v:=by
 have e1:=Z3 (fun l=>l[k]?) h.Qs;simp only[Q8,c,U3]at e1;cases b:a[k]? with
 | none=>rw[b]at e1;cases e1
 | some e=>
  rw[b]at e1;simp only[U3,Km,Hx]at e1;exact⟨e,rfl,e1⟩
theorem Kj.set{kk:IntKind}{l:List (Int×Value)}{d:List MapEntry}{clock:Nat}(h:Kj kk l d clock){k:Nat}{z:Int}{v:Value}(g:l[k]?=some (z,v))(w:Value)(f:MapEntry→MapEntry)(t:∀e,e.key=.int kk z→(f e).key=.int kk z∧(f e).val=w∧(f e).born=e.born) :
  Kj kk (l.set k (z,w)) (d.modify k f) clock:=by
 obtain⟨e,o,s,_⟩:=h.at g;obtain⟨B,A,u⟩:=t e s
 have p:(d.modify k f).map (·.born)=d.map (·.born):=by
  refine E1 fun j=>?_;simp only[Q8,Qdp]
  by_cases c:k=j
  ·subst c;simp[o,u]
  ·simp[c]
 have m:∀(a b:List MapEntry),a.map (·.born)=b.map (·.born)→b.Pairwise (fun a b=>a.born<b.born)→a.Pairwise (fun a b=>a.born<b.born):=fun a b e h=>by
  rw[←Ww (f:=fun e:MapEntry=>e.born) (R:=(· < ·))]at h ⊢
  rwa [e]
 refine⟨?_,?_,m _ _ p h.born,fun x r=>?_⟩
 ·refine E1 fun j=>?_;have e1:=Z3 (fun l=>l[j]?) h.Qs;simp only[Q8,Qdp]at e1 ⊢
  by_cases c:k=j
  ·subst c;have n:k<l.length:=(Yz.1 g).1;simp[o,B,A,n]
  ·rw[Qdo c]
   simpa [c] using e1
 ·have:(l.set k (z,w)).map (·.1)=l.map (·.1):=by
   refine E1 fun j=>?_;simp only[Q8]
   by_cases c:k=j
   ·subst c;have n:k<l.length:=(Yz.1 g).1;rw[Pp n,g];rfl
   ·rw[Qdo c]
  rw[this];exact h.nd
 ·have i:x.born∈d.map (·.born):=by rw[←p];exact Qwc r
  obtain⟨y,q,e2⟩:=Qq.1 i;rw[←e2];exact h.lt y q
theorem Kj.push{kk:IntKind}{l:List (Int×Value)}{g:List MapEntry}{clock:Nat}(h:Kj kk l g clock){z:Int}(i:z∉l.map (·.1))(w:Value):Kj kk (l++[(z,w)]) (g++[⟨.int kk z,w,clock⟩]) (clock+1):=by
 refine⟨by simp[h.Qs],by rw[Vc,Qjd];exact⟨h.nd,Q2,fun a f b d=>by simp at d;subst d;exact fun e=>i (e ▸ f)⟩,?_,?_⟩
 ·rw[Qjc];exact⟨h.born,Q2,fun a f b d=>by simp at d;subst d;exact h.lt a f⟩
 ·intro e c
  rcases Xu.1 c with c|c
  ·have:=h.lt e c;omega
  ·simp at c;subst c;simp
theorem Kj.del{kk:IntKind}{l:List (Int×Value)}{a:List MapEntry}{clock:Nat}(h:Kj kk l a clock)(k:Nat):Kj kk (l.eraseIdx k) (a.eraseIdx k) clock:=by
 refine⟨?_,?_,h.born.sublist (List.eraseIdx_sublist ..),fun e b=>h.lt e (Qjb b)⟩
 ·rw[Vr,Vr,h.Qs]
 ·rw[Vr];exact h.nd.sublist (List.eraseIdx_sublist ..)
class Pe(Γ:List Assn)(b:Nat)(kk:outParam IntKind)(l:outParam (List (Int×Value)))(Δ:outParam (List Assn)):Prop where
 Qs:Ent Γ (Qz b kk l::Δ)
instance (priority:=high) Pe.head{Γ:List Assn}{b:Nat}{kk:IntKind}{l:List (Int×Value)}:Pe (Qz b kk l::Γ) b kk l Γ:=⟨Ent.refl _⟩
instance Pe.tail{P:Assn}{Γ a:List Assn}{b:Nat}{kk:IntKind}{l:List (Int×Value)}[h:Pe Γ b kk l a]:Pe (P::Γ) b kk l (P::a):=⟨(h.Qs.cons P).trans (Ent.swap _ _ _)⟩
class Q81(Γ:List Assn)(b:Nat)(kk:outParam IntKind)(l:outParam (List (Int×Value)))(z:outParam Int)(s:outParam Nat)(Δ:outParam (List Assn)):Prop where
 Qs:Ent Γ (Zb5 b kk l z s::Δ)
instance (priority:=high) Q81.head{Γ:List Assn}{b:Nat}{kk:IntKind}{l:List (Int×Value)}{z:Int}{s:Nat}:Q81 (Zb5 b kk l z s::Γ) b kk l z s Γ:=⟨Ent.refl _⟩
theorem Sat.isMap{w:World}{b:Nat}{kk:IntKind}{l:List (Int×Value)}{Γ:List Assn}(h:Sat w (Qz b kk l::Γ)):∃a clock,w.heap[b]?=some (.map a clock)∧Kj kk l a.toList clock:=by
 obtain⟨x,le,a,clock,p,r⟩:=h.head;exact⟨a,clock,le b _ p,r⟩
theorem S.Qhn{n:Nat}{md:Bool}{w0:WM md}{ρ:Env}{Γ e:List Assn}{c:Act→World→Prop}(b:Nat){kk:IntKind}{l:List (Int×Value)}[h:Pe Γ b kk l e](k:(l.map (·.1)).Nodup→S n w0 ρ Γ c):S n w0 ρ Γ c:=by
 intro a w g d f;obtain⟨_,_,_,r⟩:=(d.Qs h.Qs).isMap;exact k r.nd a w g d f
theorem Sat.setObj{w:World}{A B:Assn}{b:Nat}{Γ:List Assn}(h:Sat w (A::Γ))(o:Obj)(j:∀x,A x→∃o',x b=some o')(i:B (HL.one b o)):Sat ({w with heap:=w.heap.setIfInBounds b o}:World) (B::Γ):=by
 refine h.upd fun x l p=>?_;obtain⟨o',a⟩:=j x p;have g:=l b _ a;obtain⟨m,k⟩:=heap_set (o':=o) g;refine⟨HL.one b o,HL.one_le m,i,fun c d _=>?_⟩;have f:c≠b:=fun e=>by subst e;rw[a]at d;cases d
 exact⟨HL.Kr f,k c f⟩
theorem Ext.setObj{md:Bool}{a:WM md}{w:World}(h:Ext a w)(b:Nat)(o:Obj):Ext a ({w with heap:=w.heap.setIfInBounds b o}:World):=h.trans ⟨rfl,rfl,rfl,Q2,Q1 _⟩
section
variable {P:Program}{n:Nat}{md:Bool}{w0:WM md}{ρ:Env}{Γ:List Assn}{Q:Exit→Act→World→Prop}{K:Act→World→Prop}{ty:TypeId}{pos:String}{af:Array Edge}{gd:Option (Nat×Bool)}{d:Nat}{ds:Option Tmp}
theorem S.makeMap{t:TypeId}(kk:IntKind)(g:Nat.blt d n=true)(k:∀b,S n w0 ((d,.map (some b))::ρ) (Qz b kk []::Γ) K):S n w0 ρ Γ (Ow P Q ⟨some d,.makeMap t none,ty,pos,af,gd⟩ K):=by
 intro a w j e c
 have f:(execOp a.eval ⟨some d,.makeMap t none,ty,pos,af,gd⟩).run P w=.ok (.value (.map (some w.heap.size))) (w.alloc (.map #[] 0)):=by
  simp[execOp,run_makeMap]
 unfold Ow Oper.wp;rw[f,Oper.upon_value];refine k w.heap.size _ _ (j.put g _) ?_ (c.alloc _)
 have m:Sat w ((fun _=>True:Assn)::Γ):=by
  obtain⟨x,l,s⟩:=e;exact⟨x,l,HL.emp,x,HL.J2 _,HL.Hm _,HL.le.refl _,trivial,s⟩
 refine m.upd fun x _ _=>⟨HL.one w.heap.size (.map #[] 0),HL.one_le (Qco rfl),⟨#[],0,HL.Vf _ _,rfl,Q2,Q2,Q2⟩,fun b _ i=>?_⟩
 have o:b<w.heap.size:=by
  rcases Nz b w.heap.size with h|h
  ·exact h
  ·simp[Array.getElem?_eq_none h]at i
 exact⟨HL.Kr Qb,Below.heap_alloc _ _ _ o⟩
theorem Zhc{x:Operand}{t d m:TypeId}{b:Nat}{kk:IntKind}{l:List (Int×Value)}{c:List Assn}(f:P.underlying t=some (.map d m))(e:ev ρ x=some (.map (some b)))[h:Pe Γ b kk l c]:Qv P n ρ Γ ⟨ds,.call {callee:=.builtin .len,args:=#[x],argTypes:=#[t]},ty,pos,af,gd⟩ (.int .i64 l.length):=fun a w k g=>by
 obtain⟨o,clock,j,r⟩:=(g.Qs h.Qs).isMap;have i:o.size=l.length:=by have:=Z3 List.length r.Qs;simpa using this
 simp[execOp,k.ev e,resolve,invoke,builtin,Builtin.len_,run_underlying f,goInt,MapKept.run_getObj_map (P:=P) j,i]
theorem M1{t B u:TypeId}{q:IntKind}{x y:Operand}{b:Nat}{kk:IntKind}{z:Int}{l:List (Int×Value)}{A:Value}{I:List Assn}(v:Value)(ok:Bool)(E:P.underlying t=some (.map B u))(F:P.underlying B=some (.int q))(c:(P.info? u).bind (·.zero)=some A)
  (D:ev ρ x=some (.map (some b))) (C:ev ρ y=some (.int kk z)) [h:Pe Γ b kk l I] (L:q=kk) (f:(v,ok)=match Yh z l with|some v=>(v,true)|none=>(A,false)):Qv P n ρ Γ ⟨ds,.lookup t x y true,ty,pos,af,gd⟩ (.tuple #[v,.bool ok]):=fun a w s K=>by
 subst L;obtain⟨N,clock,H,r⟩:=(K.Qs h.Qs).isMap;have o:=run_findKey (P:=P) (w:=w) F (Kj.find (q:=q) (kk:=q) z r.Qs 0);have m:=Hn z l 0
 have J:(zeroValue u).run P w=.ok A w:=by
  cases j:P.info? u with
  | none=>simp[j]at c
  | some i=>
   cases d:i.zero with
   | none=>simp[j,d]at c
   | some M=>
    simp only[j,d,Option.bind_some,Km]at c;simp[zeroValue,typeInfo,j,d,c]
 have G:∀e,(Instr.checkKey e 10000 B (.int q z)).run P w=.ok () w:=fun e=>run_checkKey (P:=P) (w:=w) (k:=.int q z) F rfl e 9999;cases g:Jl z l 0 with
 | none=>
  rw[g]at m o;rw[←m]at f;simp only[Option.map_none,Hx]at f;simp[execOp,s.ev D,s.ev C,Instr.lookup,run_underlying E,MapKept.run_getObj_map (P:=P) H,G,o,J,f,Result.andThen]
 | some p=>
  rw[g]at m o;rw[←m]at f;simp only[U3,Hx]at f;simp[execOp,s.ev D,s.ev C,Instr.lookup,run_underlying E,MapKept.run_getObj_map (P:=P) H,G,o,f,Result.andThen]
theorem Qx{t B u:TypeId}{q:IntKind}{x y:Operand}{b:Nat}{kk:IntKind}{z:Int}{l:List (Int×Value)}{A:Value}{I:List Assn}(v:Value)(E:P.underlying t=some (.map B u))(F:P.underlying B=some (.int q))(c:(P.info? u).bind (·.zero)=some A)
  (D:ev ρ x=some (.map (some b))) (C:ev ρ y=some (.int kk z)) [h:Pe Γ b kk l I] (L:q=kk) (f:v=(Yh z l).getD A):Qv P n ρ Γ ⟨ds,.lookup t x y false,ty,pos,af,gd⟩ v:=fun a w s K=>by
 subst L;obtain⟨N,clock,H,r⟩:=(K.Qs h.Qs).isMap;have o:=run_findKey (P:=P) (w:=w) F (Kj.find (q:=q) (kk:=q) z r.Qs 0);have m:=Hn z l 0
 have J:(zeroValue u).run P w=.ok A w:=by
  cases j:P.info? u with
  | none=>simp[j]at c
  | some i=>
   cases d:i.zero with
   | none=>simp[j,d]at c
   | some M=>
    simp only[j,d,Option.bind_some,Km]at c;simp[zeroValue,typeInfo,j,d,c]
 have G:∀e,(Instr.checkKey e 10000 B (.int q z)).run P w=.ok () w:=fun e=>run_checkKey (P:=P) (w:=w) (k:=.int q z) F rfl e 9999;cases g:Jl z l 0 with
 | none=>
  rw[g]at m o;rw[←m]at f;simp only[Option.map_none,Option.getD_none]at f;simp[execOp,s.ev D,s.ev C,Instr.lookup,run_underlying E,MapKept.run_getObj_map (P:=P) H,G,o,J,f,Result.andThen]
 | some p=>
  rw[g]at m o;rw[←m]at f;simp only[U3,Tf]at f;simp[execOp,s.ev D,s.ev C,Instr.lookup,run_underlying E,MapKept.run_getObj_map (P:=P) H,G,o,f,Result.andThen]
theorem S.mapUpdate{t u et:TypeId}{q:IntKind}{x y v:Operand}{b:Nat}{kk:IntKind}{z:Int}{vv:Value}{l:List (Int×Value)}{F:List Assn}(N:P.underlying t=some (.map u et))(O:P.underlying u=some (.int q))
  (L:ev ρ x=some (.map (some b))) (J:ev ρ y=some (.int kk z)) (M:ev ρ v=some vv) [h:Pe Γ b kk l F] (Y:q=kk) (I:S n w0 ρ (Qz b kk (Xl z vv l)::F) K):S n w0 ρ Γ (Ow P Q ⟨none,.mapUpdate t x y v,ty,pos,af,gd⟩ K):=by
 intro a w g X U;subst Y;have E:=X.Qs h.Qs;obtain⟨o,clock,m,r⟩:=E.isMap;have i:=run_findKey (P:=P) (w:=w) O (Kj.find (q:=q) (kk:=q) z r.Qs 0);have R:∀e,(Instr.checkKey e 10000 u (.int q z)).run P w=.ok () w:=fun e=>run_checkKey (P:=P) (w:=w) (k:=.int q z) O rfl e 9999;have T:∀x,Qz b q l x→∃V,x b=some V:=fun x ⟨o,c,e,_⟩=>⟨_,e⟩;cases f:Jl z l 0 with
 | none=>
  rw[f]at i;obtain⟨H,_,s⟩:=G1 f
  have A:(execOp a.eval ⟨none,.mapUpdate t x y v,ty,pos,af,gd⟩).run P w=.ok .skip ({w with heap:=w.heap.setIfInBounds b (.map (o.push ⟨.int q z,vv,clock⟩) (clock+1))}:World):=by
   simp[execOp,g.ev L,g.ev J,g.ev M,Instr.mapUpdate,run_underlying N,MapKept.run_getObj_map (P:=P) m,R,i,MapKept.run_setObj_map (P:=P) _ m,Result.andThen]
  unfold Ow Oper.wp;rw[A,Oper.upon_skip];refine I _ _ (g.Fa _) (E.setObj _ T ⟨_,_,HL.Vf _ _,?_⟩) (U.setObj _ _);rw[H];have:=r.push s vv
  simpa using this
 | some p=>
  obtain⟨j,v0⟩:=p;rw[f]at i;obtain⟨W,H,G,s,_⟩:=Kv f;obtain⟨e0,D,B,_⟩:=r.at G;have Z:j=W:=Qb
  subst Z;have C:o[j]?=some e0:=by simpa using D
  have Wa:=run_keyThatStays (P:=P) (w:=w) (d:=.int q) (k:=.int q z) rfl
  have A:(execOp a.eval ⟨none,.mapUpdate t x y v,ty,pos,af,gd⟩).run P w=.ok .skip ({w with heap:=w.heap.setIfInBounds b (.map (o.modify j fun e=>{e with key:=.int q z,val:=vv}) clock)}:World):=by
   simp[execOp,g.ev L,g.ev J,g.ev M,Instr.mapUpdate,run_underlying N,MapKept.run_getObj_map (P:=P) m,R,i,MapKept.run_setObj_map (P:=P) _ m,Result.andThen,C,B,Wa]
  unfold Ow Oper.wp;rw[A,Oper.upon_skip];refine I _ _ (g.Fa _) (E.setObj _ T ⟨_,_,HL.Vf _ _,?_⟩) (U.setObj _ _);rw[s,Qoz];exact r.set G vv _ fun e _=>⟨rfl,rfl,rfl⟩
theorem S.Gz{t o U m:TypeId}{q:IntKind}{x y:Operand}{b:Nat}{kk:IntKind}{z:Int}{l:List (Int×Value)}{A:List Assn}(F:P.underlying t=some (.map o U))(G:P.underlying o=some (.int q))
  (E:ev ρ x=some (.map (some b))) (D:ev ρ y=some (.int kk z)) [h:Pe Γ b kk l A] (R:q=kk) (C:S n w0 ρ (Qz b kk (Ge z l)::A) K):S n w0 ρ Γ (Ow P Q ⟨none,.call {callee:=.builtin .delete,args:=#[x,y],argTypes:=#[t,m]},ty,pos,af,gd⟩ K):=by
 intro a w f O J;subst R;have v:=O.Qs h.Qs;obtain⟨u,clock,i,r⟩:=v.isMap;have g:=run_findKey (P:=P) (w:=w) G (Kj.find (q:=q) (kk:=q) z r.Qs 0);have H:∀e,(Instr.checkKey e 10000 o (.int q z)).run P w=.ok () w:=fun e=>run_checkKey (P:=P) (w:=w) (k:=.int q z) G rfl e 9999;have I:∀x,Qz b q l x→∃M,x b=some M:=fun x ⟨u,c,e,_⟩=>⟨_,e⟩;cases d:Jl z l 0 with
 | none=>
  rw[d]at g;obtain⟨_,B,_⟩:=G1 d
  have s:(execOp a.eval ⟨none,.call {callee:=.builtin .delete,args:=#[x,y],argTypes:=#[t,m]},ty,pos,af,gd⟩).run P w=.ok (.value (.tuple #[])) ({w with heap:=w.heap.setIfInBounds b (.map u clock)}:World):=by
   simp[execOp,f.ev E,f.ev D,resolve,invoke,builtin,Builtin.delete_,run_underlying F,MapKept.run_getObj_map (P:=P) i,H,g,MapKept.run_setObj_map (P:=P) _ i,Result.andThen]
  unfold Ow Oper.wp;rw[s,Oper.upon_value];refine C _ _ (f.Fa _) (v.setObj _ I ⟨_,_,HL.Vf _ _,?_⟩) (J.setObj _ _);rw[B];exact r
 | some p=>
  obtain⟨j,v0⟩:=p;rw[d]at g;obtain⟨N,V,B,_,L⟩:=Kv d;have T:j=N:=Qb
  subst T
  have s:(execOp a.eval ⟨none,.call {callee:=.builtin .delete,args:=#[x,y],argTypes:=#[t,m]},ty,pos,af,gd⟩).run P w=.ok (.value (.tuple #[])) ({w with heap:=w.heap.setIfInBounds b (.map (u.eraseIdxIfInBounds j) clock)}:World):=by
   simp[execOp,f.ev E,f.ev D,resolve,invoke,builtin,Builtin.delete_,run_underlying F,MapKept.run_getObj_map (P:=P) i,H,g,MapKept.run_setObj_map (P:=P) _ i,Result.andThen]
  unfold Ow Oper.wp;rw[s,Oper.upon_value];refine C _ _ (f.Fa _) (v.setObj _ I ⟨_,_,HL.Vf _ _,?_⟩) (J.setObj _ _);rw[L,Array.toList_eraseIdxIfInBounds];exact r.del j
theorem S.mapEntry{t F et:TypeId}{q:IntKind}{x y:Operand}{b:Nat}{kk:IntKind}{z:Int}{v:Value}{l:List (Int×Value)}{J:List Assn}(Y:P.underlying t=some (.map F et))(M:P.underlying F=some (.int q))
  (G:ev ρ x=some (.map (some b))) (W:ev ρ y=some (.int kk z)) [h:Pe Γ b kk l J] (hq:q=kk) (L:Yh z l=some v) (hn:Nat.blt d n=true)
  (U:∀s:Nat,S n w0 ((d,.tuple #[v,.int .i64 s])::ρ) (Zb5 b kk l z s::J) K):S n w0 ρ Γ (Ow P Q ⟨some d,.mapEntry t x y,ty,pos,af,gd⟩ K):=by
 intro a w I Z Nu;subst hq;have O:=Z.Qs h.Qs;obtain⟨C,clock,E,r⟩:=O.isMap;have N:=run_findKey (P:=P) (w:=w) M (Kj.find (q:=q) (kk:=q) z r.Qs 0);have hc:∀e,(Instr.checkKey e 10000 F (.int q z)).run P w=.ok () w:=fun e=>run_checkKey (P:=P) (w:=w) (k:=.int q z) M rfl e 9999;have hA:∀x,Qz b q l x→∃T,x b=some T:=fun x ⟨C,c,e,_⟩=>⟨_,e⟩;have B:=Hn z l 0;cases o:Jl z l 0 with
 | none=>rw[o,L]at B;cases B
 | some p=>
  obtain⟨j,v0⟩:=p;rw[o,L]at B;simp only[U3,Km]at B;subst B;rw[o]at N;obtain⟨V,p1,D,p3,_⟩:=Kv o;obtain⟨e0,m,u,X⟩:=r.at D;have hj:j=V:=Qb
  subst hj;have H:C[j]?=some e0:=by simpa using m
  have Wa:=run_keyThatStays (P:=P) (w:=w) (d:=.int q) (k:=.int q z) rfl
  have hr:(execOp a.eval ⟨some d,.mapEntry t x y,ty,pos,af,gd⟩).run P w=.ok (.value (.tuple #[v0,.int .i64 e0.born])) ({w with heap:=w.heap.setIfInBounds b (.map (C.modify j fun e=>{e with key:=.int q z}) clock)}:World):=by
   simp[execOp,I.ev G,I.ev W,Instr.mapEntry,run_underlying Y,MapKept.run_getObj_map (P:=P) E,hc,N,MapKept.run_setObj_map (P:=P) _ E,Result.andThen,H,u,Wa,goInt]
  unfold Ow Oper.wp;rw[hr,Oper.upon_value]
  refine U _ _ _ (I.put hn _) (O.setObj _ hA ⟨_,_,HL.Vf _ _,?_,j,{e0 with key:=.int q z},?_,rfl,rfl⟩) (Nu.setObj _ _)
  ·have hl:l.set j (z,v0)=l:=by
    refine E1 fun i=>?_
    by_cases g:j=i
    ·subst g;rw[Pp (Yz.1 D).1,D]
    ·rw[Qdo g]
   rw[Qoz];have h2:=r.set D v0 (fun e=>{e with key:=.int q z});rw[hl]at h2
   refine⟨?_,r.nd,?_,?_⟩
   ·refine E1 fun i=>?_;have e1:=Z3 (fun l=>l[i]?) r.Qs;simp only[Q8,Qdp]at e1 ⊢
    by_cases g:j=i
    ·subst g;rw[m]at e1 ⊢;simp only[U3,C0]at e1 ⊢;rw[←e1,u];rfl
    ·simpa [g] using e1
   ·rw[←Ww (f:=fun e:MapEntry=>e.born) (R:=(· < ·))]
    have E:(C.toList.modify j fun e=>{e with key:=.int q z}).map (·.born)=C.toList.map (·.born):=by
     refine E1 fun i=>?_;simp only[Q8,Qdp]
     by_cases g:j=i
     ·subst g;simp[m]
     ·simp[g]
    rw[E,Ww];exact r.born
   ·intro x G;obtain⟨i,g⟩:=Dg G;rw[Qdp]at g
    by_cases A:j=i
    ·subst A;rw[m]at g;simp at g;subst g;exact r.lt e0 (Yn m)
    ·simp only[Qe A,Option.map_eq_map,Option.map_id']at g;exact r.lt x (Yn (by simpa using g))
  ·rw[Qoz,Qdp,m];simp
theorem S.entryStore{t:TypeId}{x y v:Operand}{b:Nat}{kk:IntKind}{z:Int}{s:Nat}{k:Value}{l:List (Int×Value)}{I:List Assn}
  (X:ev ρ x=some (.map (some b))) [h:Q81 Γ b kk l z s I] (W:ev ρ y=some (.int .i64 s)) (Y:ev ρ v=some k) (V:S n w0 ρ (Qz b kk (Xl z k l)::I) K):S n w0 ρ Γ (Ow P Q ⟨none,.entryStore t x y v,ty,pos,af,gd⟩ K):=by
 intro a w A Z Nu;have N:=Z.Qs h.Qs;obtain⟨x0,B,g,clock,T,r,i,F,d,C,u⟩:=N.head;have L:w.heap[b]?=some (.map g clock):=B b _ T;have hA:∀x,Zb5 b kk l z s x→∃U,x b=some U:=fun x ⟨g,c,e,_⟩=>⟨_,e⟩;have a0:g[i]?=some F:=by simpa using d
 have f:i<g.toList.length:=(Yz.1 d).1
 have E:g.findIdx? (fun e=>(e.born:Int)==(s:Int))=some i:=by
  rw[Array.findIdx?_eq_some_iff_getElem];have q:g.toList[i]=F:=by have:=Ju f;rw[this]at d;exact Hb d
  have G:g[i]'(by simpa using f)=F:=by simpa using q
  refine⟨by simpa using f,by rw[G,u];simp,fun j hj=>?_⟩;have:=Jy.1 r.born j i Qb f hj;rw[q,u,Array.getElem_toList]at this;simp only[Bool.not_eq_true,beq_eq_false_iff_ne,Mj];omega
 have e1:=Z3 (fun l=>l[i]?) r.Qs;simp only[Q8,d,U3]at e1;cases m:l[i]? with
 | none=>rw[m]at e1;cases e1
 | some p=>
  rw[m]at e1;simp only[U3,Km,Hx]at e1;rw[C]at e1;obtain⟨e2,e3⟩:=e1;simp only[Value.int.injEq,B3]at e2;obtain⟨z',v0⟩:=p;simp only at e2 e3;subst e2
  have H:Xl z k l=l.set i (z,k):=by
   cases o:Jl z l 0 with
   | none=>exact absurd (Qq.2 ⟨_,Yn m,rfl⟩) (G1 o).2.2
   | some p=>
    obtain⟨j,v1⟩:=p;obtain⟨J,p1,R,O,_⟩:=Kv o
    have D:i=J:=by
     have Ec:=r.nd;have M:(l.map (·.1))[i]?=some z:=by rw[Q8,m];rfl
     have a2:(l.map (·.1))[J]?=some z:=by rw[Q8,R];rfl
     exact(List.getElem?_inj (by have:=(Yz.1 M).1;exact this) Ec).1 (M.trans a2.symm)
    rw[O,D]
  have hr:(execOp a.eval ⟨none,.entryStore t x y v,ty,pos,af,gd⟩).run P w=.ok .skip ({w with heap:=w.heap.setIfInBounds b (.map (g.modify i fun e=>{e with val:=k}) clock)}:World):=by
   simp[execOp,A.ev X,A.ev W,A.ev Y,Instr.entryStore,MapKept.run_getObj_map (P:=P) L,asInt,asIntOf,E,MapKept.run_setObj_map (P:=P) _ L,Result.andThen]
  unfold Ow Oper.wp;rw[hr,Oper.upon_skip];refine V _ _ (A.Fa _) (N.setObj _ hA ⟨_,_,HL.Vf _ _,?_⟩) (Nu.setObj _ _);rw[H,Qoz];exact r.set m k _ fun e he=>⟨he,rfl,rfl⟩
theorem S.Qfr{t b o k:Nat}{x y:Operand}{e:TypeId}{f:Nat}{xs g:List Value}{c:Array Value}{u:List Assn}(s:SV){off:Nat}(j:Nat)(N:S5 P t=some k)(L:ev ρ x=some (.pointer (some ⟨b,o,none⟩)))(J:ev ρ y=some (.agg c))(m:c.size=k)(U:Ee c.toList=true)[h:Uo Γ s e f xs u](E:s.a=some ⟨b,off,none⟩)(R:o=off+j)(hj:j+c.size≤xs.length)(X:xs.take j++c.toList++xs.drop (j+c.size)=g)
  (kk:S n w0 ρ (own s e f g::u) K):S n w0 ρ Γ (Ow P Q ⟨none,.store t x y,ty,pos,af,gd⟩ K):=by
 intro a w p D W;subst R X;have q:=h.own D;obtain⟨Y,sn,sc⟩:=s;simp only at E q;subst E;have F:=q.1
 rcases q.2 with ⟨h0,_⟩|⟨b',B,c',d,q1,q2,G,A,H,Z,z⟩
 ·cases h0
 simp only[SV.v,Value.slice.injEq,Km,Addr.mk.injEq,R6,B3]at q1;obtain⟨⟨rfl,rfl⟩,rfl⟩:=q1;have T:sn*f≤sc*f:=R5 _ A;have r:=run_storeCells_at P b (off+j) e c.toList 0 d w G (by simp;omega) (fun v M=>Kn.1 U v M)
 have O:(execOp a.eval ⟨none,.store t x y,ty,pos,af,gd⟩).run P w=.ok .skip (w.setRow b (d.toList.take (off+j)++c.toList++d.toList.drop (off+j+c.toList.length)).toArray):=by
  simp only[Qbl]at r;simp[execOp,p.ev L,p.ev J,Instr.storeAt,Instr.sureAddr,storeVar,(Vq N w).2,Value.cells,m]at r ⊢;rw[r];rfl
 unfold Ow Oper.wp;rw[O,Oper.upon_skip];refine kk _ _ (p.Fa _) ?_ (W.trans ⟨rfl,rfl,rfl,by simp[World.setRow],Q1 _⟩);have hC:off+sn*f≤d.toList.length:=by simp only[Mk];omega
 refine(D.Qs h.Qs).Qg5 (b:=b) ⟨?_,.inr ⟨b,off,sc,_,rfl,rfl,setRow_heap w b d _ e _ G,A,H,?_,?_⟩⟩ rfl ⟨rfl,rfl,rfl,by simp[World.setRow],fun k _ m=>setRow_other w b k _ m,Q1 _⟩
 ·simp only[Yd,V9,R4,Mk];omega
 ·simp only[Qzd,Yd,V9,R4,Mk];omega
 ·simp only;have i:c.toList.length=c.size:=Mk;generalize c.toList=V at *
  generalize d.toList=C at *
  rw[i,Wb,Qzc (by rw[V9];omega)];have e1:(C.take (off+j)).drop off=(C.drop off).take j:=by rw[Qsj];congr 1;omega
  have e2:xs.take j=(C.drop off).take j:=by rw[←z,List.take_take,Ny Qb]
  have e3:xs.drop (j+c.size)=(C.drop (off+j+c.size)).take (sn*f-(j+c.size)):=by rw[←z,Qsj,Qls];congr 2;omega
  rw[e1,e2,e3];have I:((C.drop off).take j).length=j:=by rw[V9,R4];omega
  rw[Qje,I,Dh (l:=(C.drop off).take j) Qb,Qje,i,Dh (l:=V) Qb,Wb]
  congr 3
  omega
theorem Qh7{α:Type}{a:α→List Value}{b:Nat}(c:∀x,(a x).length=b){os:List α}{i:Nat}(e:i<os.length)(y:α):(os.flatMap a).take (i*b)++a y++(os.flatMap a).drop (i*b+b)=(os.set i y).flatMap a:=by
 rw[show i*b+b=(i+1)*b by rw[Cz],Q1j c,Zgg,Qh e,Qja,G2,Wb]
 congr 1
 have d:=Y1 c (os.take i);rw[V9,Ny Qb]at d
 conv=>lhs;rw[←Qlr i os,Qja]
 rw[←d,Q89]
theorem E6{t:TypeId}{x:Operand}{v:Value}(b:(match P.underlying t with|some (.interface _)=>false|some _=>true|none=>false)=true)(d:ev ρ x=some v):Qv P n ρ Γ ⟨ds,.makeInterface t x,ty,pos,af,gd⟩ (.iface t v):=fun a w e _=>by
 cases c:P.underlying t with
 | none=>rw[c]at b;cases b
 | some f=>
  cases f <;> first|(rw[c]at b;cases b;done)|simp[execOp,e.ev d,Instr.makeInterface,run_underlying c,Result.andThen]
theorem Qth{t s:TypeId}{x:Operand}{v:Value}(b:(match P.underlying t with|some (.interface _)=>false|some _=>true|none=>false)=true)(d:ev ρ x=some (.iface t v)):Qv P n ρ Γ ⟨ds,.typeAssert x s t true,ty,pos,af,gd⟩ (.tuple #[v,.bool true]):=fun a w e _=>by
 cases c:P.underlying t with
 | none=>rw[c]at b;cases b
 | some f=>
  cases f <;> first|(rw[c]at b;cases b;done)|simp[execOp,e.ev d,Instr.typeAssert,run_underlying c,Result.andThen]
def Q45(P:Program)(t:TypeId)(name:String):Option FuncId:=match P.info? t with
 | some i=>match i.methods.find? (·.name==name) with
  | some m=>match m.path.toList,m.func,P.underlying t with
   | [],some (f,true),some (.pointer _)=>some f
   | _,_,_=>none
  | none=>none
 | none=>none
theorem Qs6{t:TypeId}{v:Value}{name:String}{f:FuncId}{r:Operand}{xs:List Operand}{ats:Array TypeId}{vs:List Value}{a:Act}(b:Q45 P t name=some f)(d:Jj P f=true)(n:a.eval r=.iface t v)(c:xs.map a.eval=vs)(w:World) :
  (execOp a.eval ⟨ds,.call {callee:=.invoke r name,args:=xs.toArray,argTypes:=ats},ty,pos,af,gd⟩).run P w=.ok (.enter f (v::vs).toArray) w:=by
 unfold Q45 at b
 split at b
 ·rename_i i p
  split at b
  ·rename_i m h
   split at b
   ·rename_i A B y x u;cases b;unfold Jj at d
    split at d
    ·rename_i fn g;simp only[Z5,Qbi,Mj]at d;obtain⟨g1,g2⟩:=d;have l:¬fn.body=none:=by cases s:fn.body <;> simp[s]at g2 ⊢
     obtain⟨k,o⟩:∃k,P.types.size+Made.depth=k+1:=⟨P.types.size+99,by unfold Made.depth;omega⟩
     have e:(method (k+1) t v name).run P w=.ok (f,v) w:=by
      unfold method;simp[typeInfo,p,h,y,follow,x,receiverAt,run_underlying u,Place.get,Result.andThen]
     have z:(xs.toArray.map a.eval)=vs.toArray:=by rw[←c];simp
     have j:(callMethod (.iface t v) name vs.toArray).run P w=.ok (.enter f (v::vs).toArray) w:=by
      unfold callMethod;simp[o,e,callFunc,g,g1,l,Result.andThen]
     have q:(#[(Value.iface t v)]++vs.toArray).extract 1 (#[(Value.iface t v)]++vs.toArray).size=vs.toArray:=Q2
     simp only[execOp,resolve,n,z,invoke]
     simpa [Result.andThen] using j
    ·cases d
   ·cases b
  ·cases b
 ·cases b
theorem S.Qys{f:FuncId}{t:TypeId}{v:Value}{name:String}{r:Operand}{xs:List Operand}{ats:Array TypeId}{vs:List Value}{pre h:List Assn}{post:List Assn→Value→List Assn→Prop}(x:Q45 P t name=some f)(y:Jj P f=true)(j:ev ρ r=some (.iface t v))(c:EvL ρ xs vs)
  (q:Spec P f (v::vs) pre post md) [s:Picks pre Γ h] (u:Nat.blt d n=true)
  (k:∀v g,post h v g→S n w0 ((d,v)::ρ) g K):S n w0 ρ Γ (Ow P Q ⟨some d,.call {callee:=.invoke r name,args:=xs.toArray,argTypes:=ats},ty,pos,af,gd⟩ K):=by
 intro a w l o p;have j:=Qs6 (P:=P) (ty:=ty) (pos:=pos) (af:=af) (gd:=gd) (ds:=some d) (ats:=ats) (vs:=vs) x y (l.ev j) (c.map l) w;unfold Ow Oper.wp;rw[j,Oper.upon_enter];refine(q h w (o.Qs s.Qs)).mono ?_;rintro e z ⟨v,g,rfl,m,b,i⟩;exact k v g m _ _ (l.put u v) b (p.Qs1 i)
end
section
variable {n:Nat}{md:Bool}{w0:WM md}{ρ:Env}{Γ:List Assn}{P:Program}{Q:Exit→Act→World→Prop}{ops:Array Oper}{d:Nat}{Hs:List Assn}{late:List Nat}{fuel:Nat}{listed:Array Bool}
theorem Rm{a:Act}(e:Jt n ρ a){g t:Nat}(c:(ops[g]?).bind (·.dst)=some t)(d:Env.get ρ t=some undef):yielded ops a.tmps g=none:=by
 have h:=e.get t _ d;unfold yielded;rw[c];cases b:a.tmps[t]? with
 | none=>simp[b]
 | some v=>
  have:a.tmps.getD t undef=v:=by simp[Array.getD_eq_getD_getElem?,b]
  rw[this]at h;subst h;simp[b,undef]
theorem S.Znj{o:Oper}{rest:List Oper}{g t:Nat}{b:Bool}(k:o.guard=some (g,b))(l:(ops[g]?).bind (·.dst)=some t)(m:Env.get ρ t=some undef)(c:o.dst=some d)(j:Nat.blt d n=true)
  (h:S n w0 ((d,undef)::ρ) Γ (wpG P ops Q rest)):S n w0 ρ Γ (wpG P ops Q (o::rest)):=by
 intro a w e i f;unfold wpG;rw[Qe (by simp[Region.wanted,k,Rm e l m])];rw[c];exact h _ _ (e.put j _) i f
theorem S.Q1n{o:Oper}{g t:Nat}{c:Bool}(i:Nat)(D:List Nat)(q:ops[i]?=some o)(b:B4 ops listed i late D=true)(y:o.guard=some (g,c))(m:(ops[g]?).bind (·.dst)=some t)(l:Env.get ρ t=some undef)(A:o.dst=some d)(x:Nat.blt d n=true)(C:Ent Γ Hs)
  (k:S n w0 ((d,undef)::ρ) Γ (Dr P ops Q Hs late fuel (listed.setIfInBounds i true))):S n w0 ρ Γ (Dr P ops Q Hs late (fuel+1) listed):=by
 intro a w r p u;unfold B4 at b;simp only[Z5,Kn]at b;obtain⟨⟨⟨⟨H,G⟩,F⟩,E⟩,s⟩:=b;have B:YieldsIf P ops (fun w=>Sat w Hs) o undef a:=.inr ⟨by simp[Region.wanted,y,Rm r m l],rfl⟩;unfold Dr
 refine Pr (D:=D) q (Region.noSelect_spec H) (fun _ _ _ h=>h) (fun j f=>by simpa using E j (by simpa using f)) (fun j f o v=>?_) fuel listed a w (Region.free_spec q G) (fun j f=>?_) (by simpa using F) B (p.Qs C) ?_
 ·have:=s j f;simp only[v]at this;obtain⟨e,z,l⟩:=Qy7.1 this.2;simp only[Z5,E2,Qsh,Qy6]at l;exact⟨e,z,l.1,l.2⟩
 ·have:=s j f;simp only[Qbi,Mj,Qi0]at this;exact⟨this.1.1,this.1.2⟩
 ·rw[A];exact k _ _ (r.put x _) p u
end
section
variable {P:Program}{n:Nat}{md:Bool}{w0:WM md}{ρ:Env}{Γ:List Assn}{φ:Act→World→Prop}{ty:TypeId}{pos:String}{af:Array Edge}{gd:Option (Nat×Bool)}{ds:Option Tmp}
def RdS(R:Assn)(s:SV)(m a:Nat)(xs:List Value):Prop:=∀Γ w,Sat w (R::Γ)→Ez w s.v m a xs
theorem RdS.own{s:SV}{e:TypeId}{a:Nat}{xs:List Value}:RdS (own s e a xs) s s.n a xs:=fun _ _ b=>(Uo.head).Tq b
theorem RdS.Wo{W:World}{s:SV}{m a:Nat}{xs:List Value}(h:Ez W s.v m a xs):RdS (Wo W) s m a xs:=fun _ _ b=>(Dc.head).Tq b h
theorem RdS.at_{R:Assn}{s:SV}{m a:Nat}{xs:List Value}(h:RdS R s m a xs){b:List Assn}[p:Pick R Γ b]{w:World}(c:Sat w Γ):Ez w s.v m a xs:=h _ _ (c.Qs p.Qs)
theorem RdS.alls{a:Type}{F:a→Assn}{os:List a}{i:Nat}{x:a}(c:os[i]?=some x){s:SV}{m b:Nat}{xs:List Value}(h:RdS (F x) s m b xs):RdS (alls os F) s m b xs:=fun Γ _ d=>h _ _ (d.Qs (Ent.U5 F c Γ))
theorem S.Ao{R:Assn}{s:SV}{m e:Nat}{xs:List Value}(h:RdS R s m e xs){d:List Assn}[p:Pick R Γ d](g:0<m)(k:∀b off,s.a=some ⟨b,off,none⟩→S n w0 ρ Γ φ):S n w0 ρ Γ φ:=by
 intro a w j c f;obtain⟨b,off,i,_⟩:=F1 (h.at_ c) g;exact k b off i a w j c f
theorem S.T6{R:Assn}{s:SV}{m d:Nat}{xs:List Value}(h:RdS R s m d xs){c:List Assn}[p:Pick R Γ c](k:s.n=m→s.n≤s.c→s.c≤9223372036854775807→S n w0 ρ Γ φ):S n w0 ρ Γ φ:=by
 intro a w f b e;obtain⟨j,i,g⟩:=Tp (h.at_ b);unfold maxLen at g;exact k j i Qb a w f b e
theorem Bl{t b o:Nat}{x:Operand}{R:Assn}{s:SV}{m f off:Nat}{xs:List Value}{v:Value}(h:RdS R s m f xs){e:List Assn}[p:Pick R Γ e](j:Nat)(k:Fy P t=true)(g:ev ρ x=some (.pointer (some ⟨b,o,none⟩)))(q:s.a=some ⟨b,off,none⟩)(u:0<m)(r:o=off+j)(i:xs[j]?=some v) :
  Qv P n ρ Γ ⟨ds,.load t x,ty,pos,af,gd⟩ v:=by
 intro a w A l;obtain⟨C,c,d,B⟩:=F1 (h.at_ l) u;rw[q]at d;cases d;have z:=B _ _ i
 have y:(loadVar t ⟨b,o,none⟩).run P w=.ok v w:=by
  unfold loadVar;rw[Sem.run_bind,(Kf k w).1,r];exact Bg z
 simp only[execOp,A.ev g,Instr.loadAt,Instr.sureAddr,Sem.run_bind,Sem.run_pure,Result.andThen_ok,y]
theorem Lm{t k b o:Nat}{x:Operand}{R:Assn}{s:SV}{m q off:Nat}{xs:List Value}(h:RdS R s m q xs){l:List Assn}[p:Pick R Γ l](j:Nat)(c:List Value)(f:S5 P t=some k)(r:ev ρ x=some (.pointer (some ⟨b,o,none⟩)))(A:s.a=some ⟨b,off,none⟩)(C:0<m)(B:o=off+j)(E:c.length=k)(v:∀i u,c[i]?=some u→xs[j+i]?=some u) :
  Qv P n ρ Γ ⟨ds,.load t x,ty,pos,af,gd⟩ (.agg c.toArray):=by
 intro a w G z;obtain⟨I,e,g,H⟩:=F1 (h.at_ z) C;rw[A]at g;cases g
 have F:∀j u,c[j]?=some u→w.cell? ((⟨b,o,none⟩:Addr).add j)=some u:=fun i u y=>by
  rw[Addr.add_lit,B,Xr];exact H _ _ (v i u y)
 have d:=run_loadCells_list (P:=P) (w:=w) ⟨b,o,none⟩ c F;rw[E]at d;have D:(loadVar t ⟨b,o,none⟩).run P w=.ok (.agg c.toArray) w:=by simp[loadVar,(Vq f w).1,(Vq f w).2,d]
 simp only[execOp,G.ev r,Instr.loadAt,Instr.sureAddr,Sem.run_bind,Sem.run_pure,Result.andThen_ok,D]
end
theorem Ent.Qm6(s:SV)(e a:Nat)(xs:List Value){k:Nat}(j:k≤s.n)(Γ:List Assn):Ent (own s e a xs::Γ) (own ⟨s.a,k,s.c⟩ e a (xs.take (k*a))::Γ):=Ent.Kg Γ fun h p=>by
 have f:k*a≤s.n*a:=R5 _ j;refine⟨by rw[V9,p.1];exact Ny f,?_⟩
 rcases p.2 with ⟨c,i,g⟩|⟨b,off,d,c,i,g,n,m,l⟩
 ·exact .inl ⟨c,by simp only;omega,g⟩
 ·exact .inr ⟨b,off,d,c,i,by simp only;omega,n,m,by rw[←l,List.take_take,Ny f]⟩
theorem S.Qm7{n:Nat}{md:Bool}{w0:WM md}{ρ:Env}{Γ:List Assn}{φ:Act→World→Prop}(s:SV){e:TypeId}{f:Nat}{xs:List Value}{d:List Assn}[h:Uo Γ s e f xs d](k:(s.a.isNone=true→s.n=0)→S n w0 ρ Γ φ):S n w0 ρ Γ φ:=by
 intro a w i b g;obtain⟨x,_,p⟩:=(b.Qs h.Qs).head;refine k (fun c=>?_) a w i b g
 rcases p.2 with ⟨_,j,_⟩|⟨_,_,_,l,_⟩
 ·exact j
 ·rw[l]at c;cases c
theorem Ent.pack(a Γ:List Assn):Ent (a++Γ) (stars a::Γ):=fun _ b=>Wi.1 b
theorem Ent.unpack(a Γ:List Assn):Ent (stars a::Γ) (a++Γ):=fun _ b=>Wi.2 b
abbrev ints(l:List Int):List Value:=l.map (Value.int .i64)
theorem Q50(l:List Int):Ee (ints l)=true:=Kn.2 fun u a=>by
 obtain⟨x,_,h⟩:=Qq.1 a;subst h;rfl
theorem Lz{l:List Int}{i:Nat}{x:Int}(h:l[i]?=some x):(ints l)[i]?=some (.int .i64 x):=by rw[Q8,h];rfl
abbrev Bs:=BitVec 16
abbrev bsv(s:Bs):Value:=.int .u16 (s.toNat:Int)
theorem Qpy{l m:List Nat}(d:l.Pairwise (· < ·))(c:m.Pairwise (· < ·))(h:∀x,x∈l↔x∈m):l=m:=by
 refine Qoy (le:=(· < ·)) (fun a b _ _ f e=>Qb) d c ?_;refine(Qwb (d.imp fun h=>Qdn h) (c.imp fun h=>Qdn h)).2 h
def lst(s:Bs):List Nat:=(List.range 16).filter fun i=>s.getLsbD i
theorem Az(s:Bs):(lst s).Pairwise (· < ·):=Qwa.filter _
theorem Vw{s:Bs}{i:Nat}:i∈lst s↔s.getLsbD i=true:=by
 simp only[lst,Y5,C3,and_iff_right_iff_imp];exact fun h=>Qv9 h
theorem M8{s:Bs}{i:Nat}(h:i∈lst s):i<16:=Qv9 (Vw.1 h)
theorem Qe7{s t:Bs}(h:∀i,s.getLsbD i=true↔t.getLsbD i=true):s=t:=by
 refine Qdm fun i _=>?_;have:=h i;cases b:s.getLsbD i <;> cases a:t.getLsbD i <;> simp_all
theorem Qxx{s t:Bs}(h:lst s=lst t):s=t:=Qe7 fun i=>by rw[←Vw,←Vw,h]
theorem Ay:lst 0#16=[]:=Qp
theorem Qnf{s:Bs}:lst s=[]↔s=0#16:=⟨fun h=>Qxx (h.trans Ay.symm),fun h=>by rw[h,Ay]⟩
theorem Qng(s:Bs):(lst s).length≤16:=by
 have:=Uw (fun i=>s.getLsbD i) (List.range 16);rw[Ft]at this;exact this
def tz(s:Bs):Nat:=(lst s).head?.getD 16
theorem Q94:tz 0#16=16:=by rw[tz,Ay];rfl
theorem Tl{s:Bs}{t:Nat}{l:List Nat}(h:lst s=t::l):tz s=t:=by rw[tz,h];rfl
theorem Zex(s:Bs):tz s≤16:=by
 cases h:lst s with
 | nil=>rw[tz,h];exact Q1 _
 | cons t l=>rw[Tl h];exact Qi9 (M8 (h ▸ Z0))
theorem Gj{s:Bs}(h:s≠0#16):tz s∈lst s:=by
 cases e:lst s with
 | nil=>exact absurd (Qnf.1 e) h
 | cons t l=>rw[Tl e];exact Z0
theorem Qfm{s:Bs}{i:Nat}(h:i∈lst s):tz s≤i:=by
 cases e:lst s with
 | nil=>rw[e]at h;cases h
 | cons t l=>
  rw[Tl e];rw[e]at h;have a:=Az s;rw[e]at a
  rcases Yf.1 h with rfl|h
  ·exact Q1 _
  ·exact Qi9 ((Ws.1 a).1 i h)
theorem Qhq(s:Bs)(i:Nat):(∃j,j<i∧s.getLsbD j=true)↔s≠0#16∧tz s<i:=by
 constructor
 ·rintro ⟨j,b,h⟩;have:=Qfm (Vw.2 h);refine⟨fun e=>?_,Qb⟩;rw[e]at h;simp at h
 ·rintro ⟨h,a⟩;exact⟨tz s,a,Vw.1 (Gj h)⟩
theorem Qxy(s:Bs)(h:s≠0#16):s &&& -s=BitVec.twoPow 16 (tz s):=by
 refine Qdm fun i c=>?_;have f:tz s<16:=M8 (Gj h);rw[C2,BitVec.getLsbD_neg,Te];have b:=Qhq s i
 by_cases a:s.getLsbD i=true
 ·have g:=Qfm (Vw.2 a)
  by_cases e:tz s=i
  ·have:¬(∃j,j<i∧s.getLsbD j=true):=fun d=>by have:=(b.1 d).2;omega
   simp[a,this,e,c]
  ·have:∃j,j<i∧s.getLsbD j=true:=b.2 ⟨h,Qb⟩;simp[this,e,c]
 ·have e:tz s≠i:=fun e=>a (e ▸ Vw.1 (Gj h));simp[a,e]
def Qa8(s:Bs):Bs:=s &&& ~~~(s &&& -s)
theorem Qa7(s:Bs)(h:s≠0#16)(i:Nat):(Qa8 s).getLsbD i=(s.getLsbD i&&decide (tz s≠i)):=by
 unfold Qa8;rw[Qxy s h,C2,Qdl,Te];have a:tz s<16:=M8 (Gj h)
 by_cases b:i<16
 ·simp[b,a]
 ·have:s.getLsbD i=false:=BitVec.getLsbD_of_ge _ _ Qb;simp[this]
theorem Qam{s:Bs}{t:Nat}{l:List Nat}(h:lst s=t::l):lst (Qa8 s)=l:=by
 have h0:s≠0#16:=fun e=>by rw[e,Ay]at h;cases h
 have b:=Az s;rw[h]at b;refine Qpy (Az _) (Ws.1 b).2 fun i=>?_;rw[Vw,Qa7 s h0,Tl h];have:s.getLsbD i=true↔i=t∨i∈l:=by rw[←Vw,h,Yf]
 have d:i∈l→t<i:=fun c=>(Ws.1 b).1 i c;simp only[Z5,Zz,this]
 constructor
 ·rintro ⟨a|a,f⟩
  ·omega
  ·exact a
 ·intro a;exact⟨.inr a,by have:=d a;omega⟩
theorem Qrz(s:Bs)(h:s≠0#16):s &&& (s-1#16)=Qa8 s:=by
 rw[←BitVec.not_neg];refine Qdm fun i b=>?_;rw[Qa7 s h,C2,Qdl,BitVec.getLsbD_neg];have a:=Qhq s i
 by_cases c:s.getLsbD i=true
 ·have f:=Qfm (Vw.2 c)
  by_cases e:tz s=i
  ·have:¬(∃j,j<i∧s.getLsbD j=true):=fun d=>by have:=(a.1 d).2;omega
   simp[this,e,b]
  ·have:∃j,j<i∧s.getLsbD j=true:=a.2 ⟨h,Qb⟩;simp[this,e,b]
 ·simp[c]
def ofL:List Nat→Bs
 | []=>0#16
 | i::l=>BitVec.twoPow 16 i ||| ofL l
theorem Zbz(l:List Nat)(i:Nat):(ofL l).getLsbD i=true↔i<16∧i∈l:=by
 induction l with
 | nil=>simp[ofL]
 | cons j l c=>
  rw[ofL,Qdk,Te,E2,c,Yf,Z5,Zz,Zz]
  constructor
  ·rintro (⟨b,a⟩|⟨b,a⟩)
   ·exact⟨Qb,.inl a.symm⟩
   ·exact⟨b,.inr a⟩
  ·rintro ⟨b,a|a⟩
   ·exact .inl ⟨Qb,a.symm⟩
   ·exact .inr ⟨b,a⟩
theorem Qne{l:List Nat}(b:l.Pairwise (· < ·))(h:∀i∈l,i<16):lst (ofL l)=l:=
 Qpy (Az _) b fun i=>by rw[Vw,Zbz];exact⟨fun h=>h.2,fun a=>⟨h i a,a⟩⟩
theorem Zby(s:Bs):ofL (lst s)=s:=Qxx (Qne (Az s) fun _ h=>M8 h)
theorem Qha(l m:List Nat):ofL (l++m)=ofL l ||| ofL m:=by
 induction l with
 | nil=>simp[ofL]
 | cons i l a=>simp only[Nx,ofL,a,BitVec.or_assoc]
def mask(n:Nat):Bs:=ofL (List.range n)
theorem Q5i{n:Nat}(h:n≤16):lst (mask n)=List.range n:=Qne Qwa fun i a=>by have:=C3.1 a;omega
theorem Q47{n:Nat}(h:n≤16)(i:Nat):(mask n).getLsbD i=true↔i<n:=by rw[←Vw,Q5i h,C3]
theorem Q77(s:Bs):s.toNat<65536:=s.isLt
theorem Q76(s:Bs):(0:Int)≤s.toNat∧(s.toNat:Int)≤65535:=by have:=Q77 s;omega
theorem Qhb(s:Bs):BitVec.ofInt 16 (s.toNat:Int)=s:=by rw[Q9f,BitVec.ofNat_toNat,BitVec.setWidth_eq]
theorem Qlz(s:Bs):IntKind.u16.wrap (s.toNat:Int)=(s.toNat:Int):=G6 (Zlt (Q76 s).1 (Q76 s).2)
theorem Znn{s t:Bs}:((s.toNat:Int)=(t.toNat:Int))↔s=t:=by
 rw[Int.ofNat_inj];exact⟨BitVec.eq_of_toNat_eq,fun h=>by rw[h]⟩
theorem Ej{s:Bs}:((s.toNat:Int)=0)↔s=0#16:=by
 rw[←Znn];simp
structure Jb where
 id:Nat
 row:Nat
 ns:Bs
structure Mx where
 R:Nat
 N:Nat
 up:Bs
 js:List Jb
def tk(js:List Jb)(r:Nat):Bs:=(js.filter fun x=>decide (x.row=r)).foldr (fun x s=>x.ns ||| s) 0#16
theorem Lb(js:List Jb)(r i:Nat):(tk js r).getLsbD i=true↔∃x∈js,x.row=r∧x.ns.getLsbD i=true:=by
 unfold tk;induction js with
 | nil=>simp
 | cons x js d=>
  by_cases h:x.row=r
  ·rw[Qox (by simpa using h),List.foldr_cons,BitVec.getLsbD_or,Bool.or_eq_true,d]
   constructor
   ·rintro (a|⟨y,a,c,b⟩)
    ·exact⟨x,Z0,h,a⟩
    ·exact⟨y,Ym _ a,c,b⟩
   ·rintro ⟨y,a,c,b⟩
    rcases Yf.1 a with rfl|a
    ·exact .inl b
    ·exact .inr ⟨y,a,c,b⟩
  ·rw[Qow (by simpa using h),d]
   constructor
   ·rintro ⟨y,a,c,b⟩;exact⟨y,Ym _ a,c,b⟩
   ·rintro ⟨y,a,c,b⟩
    rcases Yf.1 a with rfl|a
    ·exact absurd c h
    ·exact⟨y,a,c,b⟩
structure W6(m:Mx):Prop where
 R1:1≤m.R
 R8:m.R≤8
 N1:1≤m.N
 Ra:m.N≤16
 up:∀i,m.up.getLsbD i=true→i<m.N
 Y4:m.js.Pairwise (fun a b=>a.id<b.id)
 P3:∀x∈m.js,1≤x.id
 Rx:∀x∈m.js,x.id≤4294967295
 row:∀x∈m.js,x.row<m.R
 some:∀x∈m.js,x.ns≠0#16
 ns:∀x∈m.js,∀i,x.ns.getLsbD i=true→i<m.N
 dis:∀x∈m.js,∀y∈m.js,x.id≠y.id→x.row=y.row→∀i,x.ns.getLsbD i=true→y.ns.getLsbD i=true→False
def look(js:List Jb)(j:Nat):Option Jb:=js.find? fun x=>decide (x.id=j)
theorem J6{js:List Jb}{j:Nat}{x:Jb}(h:look js j=some x):x∈js∧x.id=j:=⟨List.mem_of_find?_eq_some h,by simpa using List.find?_some h⟩
theorem D2{js:List Jb}{j:Nat}(h:look js j=none):∀x∈js,x.id≠j:=fun x a=>by simpa using List.find?_eq_none.1 h x a
theorem Ng{js:List Jb}(c:js.Pairwise (fun a b=>a.id<b.id)){x y:Jb}(f:x∈js)(e:y∈js)(h:x.id=y.id):x=y:=by
 induction js with
 | nil=>cases f
 | cons z js i=>
  rw[Ws]at c
  rcases Yf.1 f with e1|g
  ·rcases Yf.1 e with e2|d
   ·rw[e1,e2]
   ·have:=c.1 y d;rw[←e1]at this;omega
  ·rcases Yf.1 e with e2|d
   ·have:=c.1 x g;rw[←e2]at this;omega
   ·exact i c.2 g d
theorem Ci{js:List Jb}(d:js.Pairwise (fun a b=>a.id<b.id)){x:Jb}(c:x∈js):look js x.id=some x:=by
 cases h:look js x.id with
 | none=>exact absurd rfl (D2 h x c)
 | some y=>
  obtain⟨f,e⟩:=J6 h;rw[Ng d f c e]
def Mg(x:Jb):List Jb→List Jb
 | []=>[x]
 | y::l=>if x.id<y.id then x::y::l else y::Mg x l
theorem Qc9(x:Jb):∀l,(Mg x l).Perm (x::l)
 | []=>.refl _
 | y::l=>by
  unfold Mg
  split
  ·exact .refl _
  ·exact((Qc9 x l).cons y).trans (.swap _ _ _)
theorem Um{x y:Jb}{l:List Jb}:y∈Mg x l↔y=x∨y∈l:=by rw[(Qc9 x l).mem_iff,Yf]
theorem Qba{x:Jb}:∀ {l:List Jb},l.Pairwise (fun a b=>a.id<b.id)→(∀y∈l,y.id≠x.id)→(Mg x l).Pairwise (fun a b=>a.id<b.id)
 | [],_,_=>Qdj _ _
 | y::l,h,d=>by
  rw[Ws]at h;unfold Mg;have f:=d y Z0
  split
  ·rename_i e;refine Ws.2 ⟨fun z c=>?_,Ws.2 h⟩
   rcases Yf.1 c with rfl|c
   ·exact e
   ·have:=h.1 z c;omega
  ·rename_i e;refine Ws.2 ⟨fun z c=>?_,Qba h.2 fun z c=>d z (Ym _ c)⟩
   rcases Um.1 c with rfl|c
   ·omega
   ·exact h.1 z c
def S2(j:Nat)(l:List Jb):List Jb:=l.filter fun x=>decide (x.id≠j)
theorem U1{j:Nat}{y:Jb}{l:List Jb}:y∈S2 j l↔y∈l∧y.id≠j:=by simp[S2]
theorem Qrr{j:Nat}{l:List Jb}(h:l.Pairwise (fun a b=>a.id<b.id)):(S2 j l).Pairwise (fun a b=>a.id<b.id):=h.filter _
theorem Zaj{l m:List Jb}(d:l.Pairwise (fun a b=>a.id<b.id))(c:m.Pairwise (fun a b=>a.id<b.id))(h:∀x,x∈l↔x∈m):l=m:=by
 refine Qoy (le:=fun a b:Jb=>a.id<b.id) (fun a b _ _ g f=>Qb) d c ?_;exact(Qwb (d.imp fun h e=>by rw[e]at h;omega) (c.imp fun h e=>by rw[e]at h;omega)).2 h
theorem Q99(x:Jb)(l:List Jb)(r:Nat):tk (Mg x l) r=if x.row=r then tk l r ||| x.ns else tk l r:=Qe7 fun i=>by
 have e:(tk (Mg x l) r).getLsbD i=true↔(x.row=r∧x.ns.getLsbD i=true)∨(tk l r).getLsbD i=true:=by
  rw[Lb,Lb]
  constructor
  ·rintro ⟨y,c,b,a⟩
   rcases Um.1 c with rfl|c
   ·exact .inl ⟨b,a⟩
   ·exact .inr ⟨y,c,b,a⟩
  ·rintro (⟨b,a⟩|⟨y,c,b,a⟩)
   ·exact⟨x,Um.2 (.inl rfl),b,a⟩
   ·exact⟨y,Um.2 (.inr c),b,a⟩
 rw[e]
 by_cases h:x.row=r
 ·rw[Qh h,Qdk,E2]
  constructor
  ·rintro (⟨_,a⟩|a)
   ·exact .inr a
   ·exact .inl a
  ·rintro (a|a)
   ·exact .inr a
   ·exact .inl ⟨h,a⟩
 ·rw[Qe h]
  constructor
  ·rintro (⟨a,_⟩|a)
   ·exact absurd a h
   ·exact a
  ·exact .inr
theorem Qwk{m:Mx}(f:W6 m){x:Jb}(d:x∈m.js)(r:Nat):tk (S2 x.id m.js) r=if x.row=r then tk m.js r &&& ~~~x.ns else tk m.js r:=Qe7 fun i=>by
 rw[Lb]
 by_cases h:x.row=r
 ·rw[Qh h,C2,Qdl,Z5,Lb]
  constructor
  ·rintro ⟨y,a,b,c⟩;rw[U1]at a;have j:=Qv9 c;refine⟨⟨y,a.1,b,c⟩,?_⟩;cases k:x.ns.getLsbD i with
   | false=>simp[j]
   | true=>exact(f.dis y a.1 x d a.2 (b.trans h.symm) i c k).elim
  ·rintro ⟨⟨y,a,b,c⟩,g⟩;refine⟨y,U1.2 ⟨a,fun e=>?_⟩,b,c⟩;obtain rfl:=Ng f.Y4 a d e;rw[c]at g;simp at g
 ·rw[Qe h,Lb]
  constructor
  ·rintro ⟨y,a,b⟩;exact⟨y,(U1.1 a).1,b⟩
  ·rintro ⟨y,a,b,c⟩;refine⟨y,U1.2 ⟨a,fun e=>?_⟩,b,c⟩;obtain rfl:=Ng f.Y4 a d e;exact h b
def Mx.free(m:Mx)(r:Nat):Bs:=m.up &&& ~~~(tk m.js r)
def Mx.add(m:Mx)(x:Jb):Mx:={m with js:=Mg x m.js}
def Mx.del(m:Mx)(j:Nat):Mx:={m with js:=S2 j m.js}
theorem W6.del{m:Mx}(h:W6 m)(j:Nat):W6 (m.del j) where
 R1:=h.R1
 R8:=h.R8
 N1:=h.N1
 Ra:=h.Ra
 up:=h.up
 Y4:=Qrr h.Y4
 P3:=fun x hx=>h.P3 x (U1.1 hx).1
 Rx:=fun x hx=>h.Rx x (U1.1 hx).1
 row:=fun x hx=>h.row x (U1.1 hx).1
 some:=fun x hx=>h.some x (U1.1 hx).1
 ns:=fun x hx=>h.ns x (U1.1 hx).1
 dis:=fun x hx y hy=>h.dis x (U1.1 hx).1 y (U1.1 hy).1
theorem W6.add{m:Mx}(h:W6 m){x:Jb}(n:∀y∈m.js,y.id≠x.id)(t:1≤x.id)(s:x.id≤4294967295)(r:x.row<m.R)(q:x.ns≠0#16)(p:∀i,x.ns.getLsbD i=true→i<m.N)
  (o:tk m.js x.row &&& x.ns=0#16):W6 (m.add x):=by
 have g:∀y∈m.js,y.row=x.row→∀i,y.ns.getLsbD i=true→x.ns.getLsbD i=true→False:=fun y a b i d c=>by
  have j:(tk m.js x.row &&& x.ns).getLsbD i=true:=by
   rw[C2,c,Qov,Lb];exact⟨y,a,b,d⟩
  rw[o]at j;simp at j
 refine⟨h.R1,h.R8,h.N1,h.Ra,h.up,Qba h.Y4 n,?_,?_,?_,?_,?_,?_⟩
 ·exact fun y a=>by rcases Um.1 a with rfl|a <;> first|exact t|exact h.P3 y a
 ·exact fun y a=>by rcases Um.1 a with rfl|a <;> first|exact s|exact h.Rx y a
 ·exact fun y a=>by rcases Um.1 a with rfl|a <;> first|exact r|exact h.row y a
 ·exact fun y a=>by rcases Um.1 a with rfl|a <;> first|exact q|exact h.some y a
 ·exact fun y a=>by rcases Um.1 a with rfl|a <;> first|exact p|exact h.ns y a
 ·intro y a z f l b i d c
  rcases Um.1 a with e1|k
  ·rcases Um.1 f with e2|e
   ·exact l (by rw[e1,e2])
   ·exact g z e (by rw[←b,e1]) i c (e1 ▸ d)
  ·rcases Um.1 f with e2|e
   ·exact g y k (by rw[b,e2]) i d (e2 ▸ c)
   ·exact h.dis y k z e l b i d c
theorem Qhd:∀ {n:Nat} {l:List Nat},l.Nodup→(∀z∈l,z<n)→l.length≤n
 | 0,[],_,_=>Q1 _
 | 0,z::l,_,h=>absurd (h z Z0) Qb
 | n+1,l,c,h=>by
  have d:=Qhd (n:=n) (l:=l.filter fun z=>decide (z≠n)) (c.filter _) fun z f=>by
   obtain⟨d,b⟩:=Y5.1 f;have:=h z d;have b:z≠n:=by simpa using b
   omega
  have b:l.length≤(l.filter fun z=>decide (z≠n)).length+1:=by
   have e:=List.length_eq_countP_add_countP (fun z=>decide (z≠n)) (l:=l);rw[←List.countP_eq_length_filter]
   have g:l.countP (fun a=>decide (¬(decide (a≠n)=true)))≤1:=by
    have e3:l.countP (fun a=>decide (¬(decide (a≠n)=true)))=l.count n:=by
     rw[List.count_eq_countP];refine List.countP_congr fun x _=>?_;simp
    rw[e3];exact List.nodup_iff_count.1 c n
   omega
  omega
theorem Q28(m:Mx)(a:W6 m):m.js.length≤128:=by
 have c:((m.js.map fun x=>x.row*16+tz x.ns)).Nodup:=by
  refine Ww.2 (a.Y4.imp_of_mem ?_);intro x y b d f e;have i:=M8 (Gj (a.some x b));have h:=M8 (Gj (a.some y d));have e1:x.row=y.row:=Qb
  have e2:tz x.ns=tz y.ns:=Qb
  exact a.dis x b y d Qb e1 (tz x.ns) (Vw.1 (Gj (a.some x b))) (e2 ▸ Vw.1 (Gj (a.some y d)))
 have f:∀z∈(m.js.map fun x=>x.row*16+tz x.ns),z<128:=fun z g=>by
  obtain⟨x,b,rfl⟩:=Qq.1 g;have:=M8 (Gj (a.some x b));have:=a.row x b;have:=a.R8;omega
 have:=Qhd c f
 simpa using this
end Go.Proofs.YtdackcibfkkniaaGreatDoor
namespace Go.Proofs.YtdackcibfkkniaaGreatDoor
open Go.ChangeShapes Go.WideShapes Go.ChangeAt Go.RowKit
section
variable {H:Type}{enc:TypeId×Value→H}
def Qsa(enc:TypeId×Value→H)(L:List (String×DataW Unit))(f:FuncId)(fn:Func):Prop:=
 ∀(W:World) (base:Nat) (args:Array Value) (b:List (DataW H)) (a:List MemPlace),
  (∀(j:Nat) t v,fn.params[j]?=some t→args[j]?=some v→Value.okWide Tryz.prog W .any base t v) →
  DataW.TrodAll enc Tryz.prog W 0 (fun _=>true) true fn.params.toList args.toList b a →
  (∀p∈a,p.block<W.heap.size) →
  (DataW.weightsEach Tryz.prog (fn.params.toList++[]) (b++[])).all (·≤reachBytes)=true →
  laidMetH Tryz.prog L W →
  Calls Tryz.prog f args W fun e c=>e=.returned (.bool true)∧Below W.heap.size W c
theorem Qtx{os:Os}(c:os.Started){f:FuncId}{fn:Func}{s:ChangeSpec}{L:List (String×DataW Unit)}(v:Tryz.prog.funcs[f]?=some fn)(d:Tryz.prog.inits.idxOf? f=none)
  (b:∃(w:World) (tape:Tape) (i:Input),w.os=os∧(w.forCall tape i).Shaped Tryz.prog∧i.vars=[]∧Input.okWide Tryz.prog (w.forCall tape i) .any w.heap.size f i ∧
   ((s.pre enc Tryz.prog fn [] false (w.forCall tape i).memory i.args∧laidMetH Tryz.prog L (w.forCall tape i).memory)∧sizedMet enc Tryz.prog fn (OpenSpec.ofChange s) false (w.forCall tape i).memory i.args)∧({}:Assume).holds Tryz.prog (lone (Frame.enter Tryz.prog f i.args .normal) [] (w.forCall tape i)))
  (k:s.vars=[]) (r:fn.resultTypes=#[4]) (z:fn.params.toList.all (fun t=>Tryz.prog.readableRec t&&decide (t<Tryz.prog.types.size))=true)
  (j:∀g:List (DataW H),g.length=fn.params.toList.length→s.fn H (g++[])={results:=[.lit (.bool true)],args:=g})
  (l:Qsa enc L f fn) :
  ReturnsInHanded {} Tryz.checked os f .any (fun w args=>(s.pre enc Tryz.prog fn [] false w args∧laidMetH Tryz.prog L w)∧sizedMet enc Tryz.prog fn (OpenSpec.ofChange s) false w args) (s.post enc Tryz.prog fn false true false false):=by
 have y:∀t,t∈fn.params.toList→Tryz.prog.readableRec t=true∧t<Tryz.prog.types.size:=fun t G=>by
  have:=Kn.1 z t G
  simpa using this
 refine returnsInHanded_of_change_and (C:=Tryz.checked) (X:=fun w _=>laidMetH Tryz.prog L w) (fun _ _ _ I h=>h.of_heap I) Q4r c d v b ?_;intro W base args g N o B x _ D M _;have m:=x;have A:=x.lt;obtain⟨p,q,n,F,rfl,J,P⟩:=x;rw[k]at F;obtain⟨rfl,rfl⟩:=trodVars_none F;simp only[X3]at A m;have u:s.plain.varTypes Tryz.checked.prog=[]:=by simp[ChangeSpec.plain,DataSpec.varTypes,k]
 rw[u]at D;refine(l W base args g p B n A D M).mono fun e O ⟨K,E⟩=>?_;subst K
 refine⟨_,rfl,g,[],p,[],p,[],m,?_,?_,?_,E.frame _,fun h=>by cases h⟩
 ·have a:=D6 _ _ _ _ n;rw[j g a,r];exact trodAll_cons_mk (shut_bool Tryz.underlying4 _) trodAll_mk0
 ·have a:=D6 _ _ _ _ n;rw[j g a];exact Qjx E _ _ _ _ y n A
 ·rw[k];have a:=D6 _ _ _ _ n;rw[j g a];rfl
end
abbrev Qyn:List Int:=[0,1,28,2,29,14,24,3,30,22,20,15,25,17,4,8,31,27,13,23,21,19,16,7,26,12,18,6,11,5,10,9]
def Dx(W:World):Prop:=∀i:Nat,i<32→W.cell? ⟨0,i,none⟩=some (.int .u8 (Qyn.getD i 0))
set_option maxRecDepth 100000 in
theorem Zae{L:List (String×DataW Unit)}{W:World}(a:L=[("math/bits.deBruijn32tab",Rows.laid_math_bits_deBruijn32tab)])(h:laidMetH Tryz.prog L W):Dx W:=by
 have e:laidMetH Tryz.prog L W=laidMet Tryz.prog L W:=MakeChecks.laidMetH_plain Tryz.prog L W (by rw[a];kernel_rfl);rw[e,a]at h;have c:=Lib.tabIs_of_head (g:=0) (k:=.u8) (zs:=Qyn) (name := "math/bits.deBruijn32tab") (rest:=[]) (by kernel_rfl) (by kernel_rfl) Tryz.underlying238 Tryz.underlying5 (by kernel_rfl) (by kernel_rfl) h;exact fun i b=>c.cell (by kernel_rfl) i b
def pc8(n:Nat):Nat:=((List.range 8).filter fun i=>n.testBit i).length
def Zk9(bs:ByteArray):Bool:=(List.range 256).all fun i=>match bs[i]? with
 | some b=>b.toNat==pc8 i
 | none=>false
section
variable {P:Program}{n:Nat}{md:Bool}{w0:WM md}{ρ:Env}{Γ:List Assn}{Q:Exit→Act→World→Prop}{K:Act→World→Prop}{ty:TypeId}{pos:String}{af:Array Edge}{gd:Option (Nat×Bool)}{d:Nat}{ds:Option Tmp}
theorem Qb7{t a:TypeId}{x y:Operand}{p q:Int}(s u:Bs)(c:ev ρ x=some (.int .u16 p))(b:ev ρ y=some (.int .u16 q))(f:p=s.toNat)(d:q=u.toNat):Qv P n ρ Γ ⟨ds,.binOp .and t x y a,ty,pos,af,gd⟩ (bsv (s &&& u)):=by
 subst f d
 exact Fx c b fun w=>by
  have e:=Qlz (s &&& u);simp[binOp,Op.intBits,IntKind.bits,BitVec.ofInt_natCast]at e ⊢;exact e
theorem Qw5{t a:TypeId}{x y:Operand}{p q:Int}(s u:Bs)(c:ev ρ x=some (.int .u16 p))(b:ev ρ y=some (.int .u16 q))(f:p=s.toNat)(d:q=u.toNat):Qv P n ρ Γ ⟨ds,.binOp .or t x y a,ty,pos,af,gd⟩ (bsv (s ||| u)):=by
 subst f d
 exact Fx c b fun w=>by
  have e:=Qlz (s ||| u);simp[binOp,Op.intBits,IntKind.bits,BitVec.ofInt_natCast]at e ⊢;exact e
theorem Qb6{t a:TypeId}{x y:Operand}{p q:Int}(s u:Bs)(c:ev ρ x=some (.int .u16 p))(b:ev ρ y=some (.int .u16 q))(f:p=s.toNat)(d:q=u.toNat):Qv P n ρ Γ ⟨ds,.binOp .andNot t x y a,ty,pos,af,gd⟩ (bsv (s &&& ~~~u)):=by
 subst f d
 exact Fx c b fun w=>by
  have e:=Qlz (s &&& ~~~u);simp only[binOp,Op.intBits,IntKind.bits,Qhb,Mj,not_true_eq_false,Td,Sem.run_pure];exact Z3 (fun z=>Result.ok (Value.int IntKind.u16 z) w) e
theorem Qsv(z:Int):IntKind.u16.wrap z=((BitVec.ofInt 16 z).toNat:Int):=by
 simp only[IntKind.wrap,IntKind.bits,IntKind.signed,Qou,Qot,Td];rw[BitVec.toNat_ofInt,Int.toNat_of_nonneg (Qv8 _ Qp)];rfl
theorem Zha{t:TypeId}{x:Operand}{p:Int}(s:Bs)(b:ev ρ x=some (.int .u16 p))(c:p=s.toNat):Qv P n ρ Γ ⟨ds,.unOp .neg t x,ty,pos,af,gd⟩ (bsv (-s)):=fun a w d _=>by
 subst c
 have e:IntKind.u16.wrap (0-(s.toNat:Int))=((-s).toNat:Int):=by
  rw[Qsv,Int.zero_sub,BitVec.ofInt_neg,Qhb]
 simp only[execOp,d.ev b,Op.unary,Op.intArith,e,Sem.run_bind,Sem.run_pure,Result.andThen_ok]
theorem Qw3{t a:TypeId}{x y:Operand}{p:Int}(s:Bs)(c:ev ρ x=some (.int .u16 p))(b:ev ρ y=some (.int .u16 1))(d:p=s.toNat):Qv P n ρ Γ ⟨ds,.binOp .sub t x y a,ty,pos,af,gd⟩ (bsv (s-1#16)):=by
 subst d
 have e:IntKind.u16.wrap ((s.toNat:Int)-1)=((s-1#16).toNat:Int):=by
  rw[Qsv,Int.sub_eq_add_neg,BitVec.ofInt_add,Qhb,BitVec.ofInt_neg,BitVec.sub_eq_add_neg];rfl
 exact Fx c b fun w=>by simp only[binOp,Op.intArith,e,Mj,not_true_eq_false,Td,Sem.run_pure]
theorem Zhb{t a:TypeId}{x y:Operand}{k:IntKind}{p q:Int}(c:ev ρ x=some (.int k p))(b:ev ρ y=some (.int k q)):Qv P n ρ Γ ⟨ds,.binOp .mul t x y a,ty,pos,af,gd⟩ (.int k (k.wrap (p*q))):=
 Fx c b fun w=>by simp[binOp,Op.intArith]
theorem Q36{t yt:TypeId}{x y:Operand}{a:IntKind}{p q:Int}(s:Bs)(m:Nat)(c:ev ρ x=some (.int .u16 p))(b:ev ρ y=some (.int a q))(f:p=s.toNat)(d:q=((m:Nat):Int))(g:m≤16):Qv P n ρ Γ ⟨ds,.binOp .shr t x y yt,ty,pos,af,gd⟩ (bsv (s >>> m)):=by
 subst f;have:=Qw2 (P:=P) (n:=n) (Γ:=Γ) (t:=t) (yt:=yt) (ty:=ty) (pos:=pos) (af:=af) (gd:=gd) (ds:=ds) m c b d (by simpa [IntKind.bits] using g)
 have e:((s.toNat:Int) / 2 ^ m)=((s >>> m).toNat:Int):=by
  rw[Qv7,Qv6]
  norm_cast
 rwa [e]at this
theorem Qmv{t c:TypeId}{x y:Operand}{d:IntKind}{q:Int}(m:Nat)(g:ev ρ x=some (.int .u16 1))(f:ev ρ y=some (.int d q))(h:q=((m:Nat):Int))(i:m≤16):Qv P n ρ Γ ⟨ds,.binOp .shl t x y c,ty,pos,af,gd⟩ (bsv (BitVec.twoPow 16 m)):=fun a w b _=>by
 subst h;have h0:¬((m:Int)<0):=Qb
 have j:min m 16=m:=Ny i
 have e:IntKind.u16.wrap (1*2 ^ m)=((BitVec.twoPow 16 m).toNat:Int):=by
  rw[Qsv,Int.one_mul,BitVec.toNat_twoPow];have e2:((2:Int) ^ m)=((2 ^ m:Nat):Int):=by norm_cast
  rw[e2,Q9f,BitVec.toNat_ofNat]
 simp only[execOp,b.ev g,b.ev f,eqGuard,binOp,Op.shift,IntKind.bits,h0,Td,K0,j,e,Sem.run_bind,Sem.run_pure];simp
theorem Qdt:∀m:Nat,m≤16→BitVec.twoPow 16 m-1#16=mask m:=by
 intro m a;have:∀k:_root_.Fin 17,BitVec.twoPow 16 k.1-1#16=mask k.1:=Qp
 exact this ⟨m,Qb⟩
theorem Qw4{t:TypeId}{x y:Operand}{bs:ByteArray}{d:IntKind}{z:Int}(i:Nat)(k:P.underlying t=some .string)(j:ev ρ x=some (.string bs))(m:Zk9 bs=true)(g:ev ρ y=some (.int d z))(f:z=((i:Nat):Int))(l:i<256):Qv P n ρ Γ ⟨ds,.index t x y,ty,pos,af,gd⟩ (.int .u8 ((pc8 i:Nat):Int)):=fun a w c _=>by
 subst f;have h:=Kn.1 m i (C3.2 l);cases e:bs[i]? with
 | none=>rw[e]at h;cases h
 | some b=>
  rw[e]at h;have h:b.toNat=pc8 i:=by simpa using h
  simp[execOp,c.ev j,c.ev g,Instr.index,asIntOf,run_underlying k,e,h]
end
theorem Q4q(n:Nat):pc8 n≤8:=by
 have:=Uw (fun i=>n.testBit i) (List.range 8);rw[Ft]at this;exact this
theorem Zhy(s:Bs):(lst s).length=pc8 (s.toNat / 256)+pc8 (s.toNat % 256):=by
 have e:(List.range 16)=List.range 8++(List.range 8).map (8+·):=Qp
 unfold lst;rw[e,Gu,Yd,List.filter_map,Qo]
 have e1:(List.range 8).filter (fun i=>s.getLsbD i)=(List.range 8).filter fun i=>(s.toNat % 256).testBit i:=Qdi fun i a=>by
  have:=C3.1 a;rw[show (256:Nat)=2 ^ 8 from rfl,Nat.testBit_mod_two_pow,BitVec.getLsbD];simp[this]
 have e2:(List.range 8).filter ((fun i=>s.getLsbD i) ∘ (8+·))=(List.range 8).filter fun i=>(s.toNat / 256).testBit i:=Qdi fun i _=>by
  rw[show (256:Nat)=2 ^ 8 from rfl,Nat.testBit_div_two_pow,Function.comp,BitVec.getLsbD,Nat.add_comm]
 rw[e1,e2];unfold pc8;omega
theorem Qgt{P:Program}{n:Nat}{ρ:Env}{Γ:List Assn}{ty:TypeId}{pos:String}{af:Array Edge}{gd:Option (Nat×Bool)}{ds:Option Tmp}{t f g:TypeId}{q:IntKind}{x y:Operand}{b:Nat}{kk:IntKind}{z:Int}{e:Value}{W:World}{d:Array MapEntry}{clock:Nat}(l:List (Int×Value))(v:Value)(m:P.underlying t=some (.map f g))(s:P.underlying f=some (.int q))(c:(P.info? g).bind (·.zero)=some e)
  (j:ev ρ x=some (.map (some b))) (i:ev ρ y=some (.int kk z)) [h:Dc Γ W] (r:q=kk) (u:W.heap[b]?=some (.map d clock)) (p:Kj kk l d.toList clock) (k:v=(Yh z l).getD e):Qv P n ρ Γ ⟨ds,.lookup t x y false,ty,pos,af,gd⟩ v:=by
 intro a w A o
 have B:Sat w (Qz b kk l::[]):=by
  refine⟨HL.of w,HL.le.refl _,HL.of w,HL.emp,fun _=>.inr rfl,HL.le.refl _,HL.Hm _,⟨d,clock,?_,p⟩,trivial⟩;exact h.sat w o b _ u
 exact Qx (Γ:=Qz b kk l::[]) v m s c j i r k a w A B
open Go.ChangeMaps (setBlock)
def G3(r b:Nat)(kk:IntKind)(l left:List (Int×Value))(d:Option (Int×Value)):Assn:=fun h=>∃(c:Array MapEntry) (clock since:Nat) (seen:Array Nat) (c0:Nat),h b=some (.map c clock)∧h r=some (.mapIter (some b) since seen c0)∧r≠b ∧
 Kj kk l c.toList clock∧(∀x∈c.toList,x.born<since)∧since≤c0∧since≤clock∧(leftOf c seen).toList.map (fun e=>(e.key,e.val))=left.map (fun x=>(Value.int kk x.1,x.2)) ∧
 (∀z v,d=some (z,v)→∃(a:Array Nat) (e:MapEntry),seen=a.push e.born∧c0=clock∧e∈c.toList∧e.key=.int kk z∧e.val=v)
theorem Ent.G3{r b:Nat}{kk:IntKind}{l left:List (Int×Value)}{a:Option (Int×Value)}(Γ:List Assn):Ent (G3 r b kk l left a::Γ) (Qz b kk l::Γ):=
 Ent.Kg Γ fun _ ⟨e,clock,_,_,_,d,_,_,c,_⟩=>⟨e,clock,d,c⟩
class Qvj(Γ:List Assn)(r:Nat)(b:outParam Nat)(kk:outParam IntKind)(l left:outParam (List (Int×Value)))(cur:outParam (Option (Int×Value)))(Δ:outParam (List Assn)):Prop where
 Qs:Ent Γ (G3 r b kk l left cur::Δ)
instance (priority:=high) Qvj.head{Γ:List Assn}{r b:Nat}{kk:IntKind}{l left:List (Int×Value)}{a:Option (Int×Value)}:Qvj (G3 r b kk l left a::Γ) r b kk l left a Γ:=⟨Ent.refl _⟩
instance Qvj.tail{A:Assn}{Γ c:List Assn}{r b:Nat}{kk:IntKind}{l left:List (Int×Value)}{a:Option (Int×Value)}[h:Qvj Γ r b kk l left a c]:Qvj (A::Γ) r b kk l left a (A::c):=⟨(h.Qs.cons A).trans (Ent.swap _ _ _)⟩
theorem Qeu{l:List MapEntry}(h:l.Pairwise (fun a b=>a.born<b.born)){i:Nat}{e:MapEntry}(d:l[i]?=some e):l.filter (fun x=>decide (x.born≠e.born))=l.eraseIdx i:=by
 induction l generalizing i with
 | nil=>simp at d
 | cons z l f=>
  rw[Ws]at h;cases i with
  | zero=>
   simp only[Qsi,Km]at d;subst d;rw[Qow Q2,Qv5];refine Np.2 fun x g=>?_;have:=h.1 x g;simp;omega
  | succ i=>
   have c:l[i]?=some e:=by simpa using d
   have:=h.1 e (Yn c);rw[Qox (by simp;omega),Qv4,f h.2 c]
theorem Qqq(a:Array MapEntry)(seen:Array Nat)(c:Nat):(leftOf a (seen.push c)).toList=(leftOf a seen).toList.filter fun x=>decide (x.born≠c):=by
 unfold leftOf;rw[Qi8,Qi8,Qv3];refine Qdi fun x _=>?_
 by_cases h:x.born=c
 ·simp[h]
 ·have b:¬c=x.born:=fun e=>h e.symm;simp[h]
section
variable {P:Program}{n:Nat}{md:Bool}{w0:WM md}{ρ:Env}{Γ:List Assn}{Q:Exit→Act→World→Prop}{K:Act→World→Prop}{ty:TypeId}{pos:String}{af:Array Edge}{gd:Option (Nat×Bool)}{d:Nat}{ds:Option Tmp}
theorem S.range{t A D:TypeId}{x:Operand}{b:Nat}{kk:IntKind}{l:List (Int×Value)}{u:List Assn}(I:P.underlying t=some (.map A D))(H:ev ρ x=some (.map (some b)))[h:Pe Γ b kk l u](M:Nat.blt d n=true)
  (k:∀r,S n w0 ((d,.pointer (some ⟨r,0,none⟩))::ρ) (G3 r b kk l l none::u) K):S n w0 ρ Γ (Ow P Q ⟨some d,.range t x,ty,pos,af,gd⟩ K):=by
 intro a w C J R;have E:=J.Qs h.Qs;obtain⟨q,clock,m,p⟩:=E.isMap;have O:b<w.heap.size:=(Qwe.1 m).1
 have s:(execOp a.eval ⟨some d,.range t x,ty,pos,af,gd⟩).run P w=.ok (.value (.pointer (some ⟨w.heap.size,0,none⟩))) (w.alloc (.mapIter (some b) clock #[] clock)):=by
  simp only[execOp,C.ev H,Sem.run_bind,run_range_map w t A D b q clock I m,Result.andThen_ok,Sem.run_pure]
 unfold Ow Oper.wp;rw[s,Oper.upon_value];refine k w.heap.size _ _ (C.put M _) ?_ (R.alloc _);refine E.upd fun y G F=>?_;obtain⟨N,o,j,L⟩:=F;have e1:=G b _ j;unfold HL.of at e1;rw[m]at e1;cases e1
 refine⟨HL.join (HL.one b (.map q clock)) (HL.one w.heap.size (.mapIter (some b) clock #[] clock)),HL.join_le (HL.one_le ?_) (HL.one_le ?_),⟨q,clock,clock,#[],clock,?_,?_,Qb,p,p.lt,Q1 _,Q1 _,?_,fun z v e=>by cases e⟩,fun c B i=>⟨?_,?_⟩⟩
 ·exact(Below.heap_alloc w _ b O).trans m
 ·exact Qco rfl
 ·simp[HL.join,HL.one]
 ·have:w.heap.size≠b:=Qb
  simp[HL.join,HL.one,this]
 ·rw[←p.Qs];unfold leftOf;rw[Qi8,Np.2 (fun x _=>Q2)]
 ·have f:c<w.heap.size:=by
   rcases Nz c w.heap.size with g|g
   ·exact g
   ·simp[Array.getElem?_eq_none g]at i
  refine HL.join_none (HL.Kr fun e=>?_) (HL.Kr Qb);subst e;rw[j]at B;cases B
 ·have f:c<w.heap.size:=by
   rcases Nz c w.heap.size with g|g
   ·exact g
   ·simp[Array.getElem?_eq_none g]at i
  exact Below.heap_alloc w _ c f
theorem S.Xh{x:Operand}{r b:Nat}{kk:IntKind}{l left:List (Int×Value)}{o:Option (Int×Value)}{A:List Assn}(O:ev ρ x=some (.pointer (some ⟨r,0,none⟩)))[h:Qvj Γ r b kk l left o A](T:Nat.blt d n=true)
  (k0:left=[]→S n w0 ((d,.tuple #[.bool false])::ρ) (G3 r b kk l left o::A) K)
  (k1:∀i z v,left[i]?=some (z,v)→S n w0 ((d,.tuple #[.bool true,.int kk z,v])::ρ) (G3 r b kk l (left.eraseIdx i) (some (z,v))::A) K) :
  S n w0 ρ Γ (Ow P Q ⟨some d,.next x false,ty,pos,af,gd⟩ K):=by
 intro a w C hs L;have M:=hs.Qs h.Qs;obtain⟨y,N,m,clock,since,seen,c0,h1,h2,I,W,V,h6,u,D,h8⟩:=M.head;have H:w.heap[b]?=some (.map m clock):=N b _ h1;have R:w.heap[r]?=some (.mapIter (some b) since seen c0):=N r _ h2
 rcases run_next_at (P:=P) w ty r b since c0 seen m clock R H V h6 with ⟨h0,p⟩|⟨e,B,j,t,p⟩
 ·have hl:left=[]:=by
   have e0:leftOf m seen=#[]:=Array.eq_empty_of_size_eq_zero h0;rw[e0]at D;exact Fs.1 D.symm
  have J:(execOp a.eval ⟨some d,.next x false,ty,pos,af,gd⟩).run P w=.ok (.value (.tuple #[.bool false])) w:=by
   simp only[execOp,C.ev O,Sem.run_bind,p,Result.andThen_ok,Sem.run_pure]
  unfold Ow Oper.wp;rw[J,Oper.upon_value];exact k0 hl _ _ (C.put T _) M L
 ·obtain⟨i,U⟩:=Dg B
  have G:(leftOf m seen).toList.Pairwise (fun a b=>a.born<b.born):=by
   unfold leftOf;rw[Qi8];exact W.born.filter _
  have Hl:e∈m.toList:=by
   unfold leftOf at B;rw[Qi8]at B;exact(Y5.1 B).1
  have f:=Z3 (fun q=>q[i]?) D;simp only[Q8,U,U3]at f;cases k:left[i]? with
  | none=>rw[k]at f;cases f
  | some X=>
   obtain⟨z,v⟩:=X;rw[k]at f;simp only[U3,Km,Hx]at f
   have J:(execOp a.eval ⟨some d,.next x false,ty,pos,af,gd⟩).run P w=.ok (.value (.tuple #[.bool true,.int kk z,v])) (setBlock j r (.mapIter (some b) since (seen.push e.born) clock)):=by
    simp only[execOp,C.ev O,Sem.run_bind,p,Result.andThen_ok,Sem.run_pure,f.1,f.2]
   have g:j.heap=w.heap:=by rcases t with rfl|rfl <;> rfl
   unfold Ow Oper.wp;rw[J,Oper.upon_value]
   refine k1 i z v k _ _ (C.put T _) ?_ ?_
   ·have Da:Sat j (G3 r b kk l left o::A):=M.of_heap g;refine Da.upd fun y Z Y=>?_;obtain⟨a0,E,_,_,_,g1,g2,_⟩:=Y;have q1:=Z b _ g1;unfold HL.of at q1;rw[g,H]at q1;cases q1;have F:r<j.heap.size:=by rw[g];exact(Qwe.1 R).1
    refine⟨HL.join (HL.one b (.map m clock)) (HL.one r (.mapIter (some b) since (seen.push e.born) clock)),HL.join_le (HL.one_le ?_) (HL.one_le ?_),⟨m,clock,since,seen.push e.born,clock,?_,?_,I,W,V,u,u,?_,fun z' v' e'=>?_⟩,fun c s _=>⟨?_,?_⟩⟩
    ·show (j.heap.setIfInBounds r _)[b]?=_;rw[Zgi I,g,H]
    ·show (j.heap.setIfInBounds r _)[r]?=_;rw[Array.getElem?_setIfInBounds_self_of_lt F]
    ·simp[HL.join,HL.one]
    ·simp[HL.join,HL.one,I]
    ·rw[Qqq,Qeu G U,Vr,D,←Vr]
    ·cases e';exact⟨seen,e,rfl,rfl,Hl,f.1,f.2⟩
    ·refine HL.join_none (HL.Kr fun e=>?_) (HL.Kr fun e=>?_)
     ·subst e;rw[g1]at s;cases s
     ·subst e;rw[g2]at s;cases s
    ·show (j.heap.setIfInBounds r _)[c]?=_;have:r≠c:=fun e=>by subst e;rw[g2]at s;cases s
     rw[Zgi this]
   ·have Y3:Ext w0 j:=by
     rcases t with rfl|rfl
     ·exact L
     ·exact L.drew
    exact Y3.setObj r _
theorem Cf{x:Operand}{r b:Nat}{kk:IntKind}{l left:List (Int×Value)}{z:Int}{v:Value}{g:List Assn}(i:ev ρ x=some (.pointer (some ⟨r,0,none⟩)))[h:Qvj Γ r b kk l left (some (z,v)) g]:Qv P n ρ Γ ⟨ds,.entry x,ty,pos,af,gd⟩ (.tuple #[.int kk z,v]):=by
 intro a w p k;obtain⟨y,d,f,clock,since,seen,c0,A,u,F,t,E,D,s,C,q⟩:=(k.Qs h.Qs).head;obtain⟨c,e,rfl,rfl,o,m,j⟩:=q z v rfl;have B:(f.toList.map (·.born)).Nodup:=Ww.2 (t.born.imp fun h=>Qdn h);have:=run_entry_at (P:=P) w r b since c f c0 e (d r _ u) (d b _ A) o B;rw[m,j]at this;simp only[execOp,p.ev i,Sem.run_bind,this,Result.andThen_ok,Sem.run_pure]
theorem Qzs{r:Nat}{a:Array MapEntry}{clock:Nat}(t:TypeId)(w:World)(b:w.heap[r]?=some (.map a clock)) :
  (Extern.MapsClone.clone #[.iface t (.map (some r))]).run P w=.ok (.iface t (.map (some w.heap.size))) (w.alloc (.map a clock)):=by
 have e:Extern.MapsClone.clone #[.iface t (.map (some r))]=(getObj r >>= fun o=>match o with
   | .map entries clock=>(newObj (.map entries clock) >>= fun n=>pure (.iface t (.map (some n))))
   | _=>stuck "maps.clone: a map expected"):=rfl
 rw[e];simp[MapKept.run_getObj_map b,Result.andThen,go_sem]
theorem S.clone{f:FuncId}{fn:Func}{x:Operand}{e:Array TypeId}{t:TypeId}{b:Nat}{kk:IntKind}{l:List (Int×Value)}{g:List Assn}(D:P.funcs[f]?=some fn)(q:(fn.name == "runtime.NumGoroutine")=false)(G:fn.body.isNone=true)(i:Extern.findNext fn=none)(E:Extern.find fn=some Extern.MapsClone.clone)
  (z:ev ρ x=some (.iface t (.map (some b)))) [h:Pe Γ b kk l g] (C:Nat.blt d n=true)
  (k:∀c,S n w0 ((d,.iface t (.map (some c)))::ρ) (Qz c kk l::Qz b kk l::g) K):S n w0 ρ Γ (Ow P Q ⟨some d,.call {callee:=.value (.func f),args:=#[x],argTypes:=e},ty,pos,af,gd⟩ K):=by
 intro a w u A I;have v:=A.Qs h.Qs;obtain⟨p,clock,m,B⟩:=v.isMap
 have r:(execOp a.eval ⟨some d,.call {callee:=.value (.func f),args:=#[x],argTypes:=e},ty,pos,af,gd⟩).run P w=.ok (.value (.iface t (.map (some w.heap.size)))) (w.alloc (.map p clock)):=by
  have o:=run_callFunc_extern D q G i E #[.iface t (.map (some b))] w;rw[Qzs t w m]at o;simp only[Result.andThen]at o;have j:a.eval (.func f)=.func (.func f) #[] #[]:=rfl;simp[execOp,resolve,j,Deferred.ofValue,invoke,u.ev z,o]
 unfold Ow Oper.wp;rw[r,Oper.upon_value];refine k w.heap.size _ _ (u.put C _) ?_ (I.alloc _)
 have h0:Sat w ((fun _=>True:Assn)::Qz b kk l::g):=by
  obtain⟨y,l,s⟩:=v;exact⟨y,l,HL.emp,y,HL.J2 _,HL.Hm _,HL.le.refl _,trivial,s⟩
 refine h0.upd fun y _ _=>⟨HL.one w.heap.size (.map p clock),HL.one_le (Qco rfl),⟨p,clock,HL.Vf _ _,B⟩,fun c _ F=>?_⟩
 have H:c<w.heap.size:=by
  rcases Nz c w.heap.size with h|h
  ·exact h
  ·simp[Array.getElem?_eq_none h]at F
 exact⟨HL.Kr Qb,Below.heap_alloc _ _ _ H⟩
theorem Q4d{t s:TypeId}{x:Operand}{v:Value}{b g:TypeId}(d:P.underlying t=some (.map b g))(c:ev ρ x=some (.iface t v)):Qv P n ρ Γ ⟨ds,.typeAssert x s t false,ty,pos,af,gd⟩ v:=fun a w e _=>by
 have f:(Instr.typeAssert (.iface t v) s t false).run P w=.ok v w:=by simp[Instr.typeAssert,run_underlying d,go_sem,Result.andThen]
 simp only[execOp,e.ev c,Sem.run_bind,f,Result.andThen_ok,Sem.run_pure]
theorem Hz{t a b f:TypeId}{x y:Operand}{p:Option Nat}(e:P.underlying t=some (.map b f))(d:ev ρ x=some (.map p))(c:ev ρ y=some (.map none)):Qv P n ρ Γ ⟨ds,.binOp .eql t x y a,ty,pos,af,gd⟩ (.bool p.isNone):=
 Qb5 d c (fun w=>by simp[eqGuard]) (fun w=>by
  simp only[binOp];rw[show Op.equal t (.map p) (.map none)=Op.equalIn (9999+1) t (.map p) (.map none) from rfl];unfold Op.equalIn;cases p <;> simp[run_underlying e])
end
theorem ef{b:Sort _}{a:b}:a=a:=rfl
abbrev ZEk:=Exit→Act→World→Prop
inductive ZFr
 | seq (y:Code)
 | blk (i:Nat)
 | scp
 | top (φ:Act→World→Prop)
def ZQs(P:Program)(B:ZEk):List ZFr→ZEk
 | []=>B
 | .seq y::ks=>Exit.then (y.wp P (ZQs P B ks)) (ZQs P B ks)
 | .blk i::ks=>Exit.inBlock i (ZQs P B ks)
 | .scp::ks=>Exit.noGoto (ZQs P B ks)
 | .top φ::ks=>Exit.then φ (ZQs P B ks)
structure ZCd(P:Program)(B:ZEk)(ks:List ZFr)(c:Code)(a:Act)(w:World):Prop where
 out:c.wp P (ZQs P B ks) a w
structure ZOl(P:Program)(B:ZEk)(ks:List ZFr)(ops l:List Oper)(a:Act)(w:World):Prop where
 out:wpG P ops.toArray (ZQs P B ks) l a w
structure ZEx(P:Program)(B:ZEk)(ks:List ZFr)(e:Exit)(a:Act)(w:World):Prop where
 out:ZQs P B ks e a w
class ZEv(o:Option Value)(v:outParam Value):Prop where
 h:o=some v
instance ZEv.i{v:Value}:ZEv (some v) v:=⟨rfl⟩
class Eo{α:Type}(a:α)(b:outParam α):Prop where
 h:a=b
class ZTt(b:Bool):Prop where
 h:b=true
instance ZTt.i:ZTt true:=⟨rfl⟩
class ZFf(b:Bool):Prop where
 h:b=false
instance ZFf.i:ZFf false:=⟨rfl⟩
abbrev Zltb(d n:Nat):Bool:=match Nat.ble (d+1) n with
 | true=>true
 | false=>false
class ZLb(d n:Nat):Prop where
 h:Nat.blt d n=true
instance ZLb.i{d n:Nat}[h:ZTt (Zltb d n)]:ZLb d n:=⟨by have:=h.h;unfold Zltb at this;unfold Nat.blt;split at this <;> simp_all⟩
abbrev Zeqb(d n:Nat):Bool:=match Nat.beq d n with
 | true=>true
 | false=>false
class ZOc(v:Value):Prop where
 h:v.oneCell'=true
instance ZOc.i{k:IntKind}{n:Int}:ZOc (.int k n):=⟨rfl⟩
instance ZOc.b{b:Bool}:ZOc (.bool b):=⟨rfl⟩
instance ZOc.p{p:Option Addr}:ZOc (.pointer p):=⟨rfl⟩
instance ZOc.s{p:Option Addr}{n c:Nat}:ZOc (.slice p n c):=⟨rfl⟩
instance ZOc.m{p:Option Nat}:ZOc (.map p):=⟨rfl⟩
class ZEl(ρ:Env)(xs:List Operand)(vs:outParam (List Value)):Prop where
 h:EvL ρ xs vs
instance ZEl.n{ρ:Env}:ZEl ρ [] []:=⟨trivial⟩
instance ZEl.c{ρ:Env}{x:Operand}{v:Value}{xs:List Operand}{vs:List Value}[h:ZEv (ev ρ x) v][t:ZEl ρ xs vs]:ZEl ρ (x::xs) (v::vs):=⟨h.h,t.h⟩
class ZSl(l:List Value)(o:Nat)(v:Value)(l':outParam (List Value)):Prop where
 h:l.set o v=l'
 b:o<l.length
instance ZSl.z{a v:Value}{l:List Value}:ZSl (a::l) 0 v (v::l):=⟨rfl,Nat.succ_pos _⟩
instance ZSl.s{a v:Value}{l b:List Value}{o:Nat}[h:ZSl l o v b]:ZSl (a::l) (o+1) v (a::b):=⟨by rw[Qiw,h.h],Nat.succ_lt_succ h.b⟩
class ZSg(l:List Value)(o k:Nat)(vs:outParam (List Value)):Prop where
 h:vs.length=k∧Seg l.toArray o vs
instance ZSg.z{l:List Value}{o:Nat}:ZSg l o 0 []:=⟨rfl,trivial⟩
instance ZSg.s{l vs:List Value}{o k:Nat}{v:Value}[h:ZEv (lg l o) v][t:ZSg l (o+1) k vs]:ZSg l o (k+1) (v::vs):=⟨by simp[t.h.1],h.h,t.h.2⟩
abbrev Znth:List Oper→Nat→Option Oper
 | [],_=>none
 | o::_,0=>some o
 | _::l,n+1=>Znth l n
theorem Fm:∀(l:List Oper) (i:Nat),l.toArray[i]?=Znth l i
 | [],_=>by simp[Znth]
 | _::_,0=>by simp[Znth]
 | _::l,n+1=>by have:=Fm l n;simp only[List.getElem?_toArray]at this;simp[Znth,this]
abbrev Zgds(l:List Oper)(g:Nat):Option Nat:=match Znth l g with
 | some o=>o.dst
 | none=>none
theorem Nn{l:List Oper}{g t:Nat}(h:Zgds l g=some t):(l.toArray[g]?).bind (·.dst)=some t:=by
 rw[Fm];unfold Zgds at h;cases a:Znth l g with
 | none=>rw[a]at h;cases h
 | some o=>rw[a]at h;exact h
class ZEd(o:Option Nat)(t:outParam Nat):Prop where
 h:o=some t
instance ZEd.i{t:Nat}:ZEd (some t) t:=⟨rfl⟩
class Qve(o:Option Oper)(v:outParam Oper):Prop where
 h:o=some v
instance Qve.i{v:Oper}:Qve (some v) v:=⟨rfl⟩
class ZBw(v:Option Value)(b:outParam Bool):Prop where
 h:v=some (.bool b)
instance ZBw.t:ZBw (some (.bool true)) true:=⟨rfl⟩
instance ZBw.f:ZBw (some (.bool false)) false:=⟨rfl⟩
instance ZBw.n0{a:Type}:ZBw (some (.bool (none:Option a).isNone)) true:=⟨rfl⟩
instance ZBw.n1{a:Type}{x:a}:ZBw (some (.bool (some x).isNone)) false:=⟨rfl⟩
instance ZBw.s0{a:Type}:ZBw (some (.bool (none:Option a).isSome)) false:=⟨rfl⟩
instance ZBw.s1{a:Type}{x:a}:ZBw (some (.bool (some x).isSome)) true:=⟨rfl⟩
instance ZBw.q2{a:Int}{d:Decidable (a≠a)}:ZBw (some (.bool (@decide (a≠a) d))) false:=⟨Q2⟩
instance ZBw.q3{a:Int}{d:Decidable (a<a)}:ZBw (some (.bool (@decide (a<a) d))) false:=⟨Q2⟩
instance Bw.m0{b a:Type}{f:b→a}:ZBw (some (.bool (Option.map f none).isNone)) true:=⟨rfl⟩
instance Bw.m1{a b:Type}{f:a→b}{x:a}:ZBw (some (.bool (Option.map f (some x)).isNone)) false:=⟨rfl⟩
instance Bw.nt{b:Bool}[h:ZBw (some (.bool b)) false]:ZBw (some (.bool (!b))) true:=⟨by have:=h.h;simp at this;simp[this]⟩
instance ZBw.nf{b:Bool}[h:ZBw (some (.bool b)) true]:ZBw (some (.bool (!b))) false:=⟨by have:=h.h;simp at this;simp[this]⟩
abbrev Zt1:List Nat→Nat→Bool
 | [],_=>false
 | x::l,t=>match Nat.beq x t with
  | true=>true
  | false=>Zt1 l t
abbrev Zt2{a:Type}:List (Nat×a)→Nat→Option a
 | [],_=>none
 | (x,c)::l,t=>match Nat.beq x t with
  | true=>some c
  | false=>Zt2 l t
class ZEn{α:Type}(o:Option α)(v:outParam α):Prop where
 h:o=some v
instance ZEn.i{a:Type}{v:a}:ZEn (some v) v:=⟨rfl⟩
theorem Qy2{p:Nat→Bool}{l:List Nat}(h:l.all p=true){t:Nat}(a:Zt1 l t=true):p t=true:=by
 induction l with
 | nil=>cases a
 | cons x l b=>
  simp only[Qy8,Z5]at h;unfold Zt1 at a
  split at a
  ·rename_i e;rw[←Qbk e];exact h.1
  ·exact b h.2 a
theorem Qfg{b:Type}{p:Nat→b→Bool}{l:List (Nat×b)}(h:(l.all fun x=>p x.1 x.2)=true){t:Nat}{c:b}(a:Zt2 l t=some c):p t c=true:=by
 induction l with
 | nil=>cases a
 | cons x l d=>
  simp only[Qy8,Z5]at h;unfold Zt2 at a
  split at a
  ·rename_i e;cases a;rw[←Qbk e];exact h.1
  ·exact d h.2 a
abbrev Ztk:Nat→List Nat→List Nat
 | 0,_=>[]
 | _,[]=>[]
 | n+1,x::l=>x::Ztk n l
abbrev Zdp:Nat→List Nat→List Nat
 | 0,l=>l
 | _,[]=>[]
 | n+1,_::l=>Zdp n l
abbrev Zra(a k:Nat):List Nat:=Ztk k (Zdp a [0,1,2,3,4,5,6,7,8,9,10,11,12,13,14,15,16,17,18,19,20,21,22,23,24,25,26,27,28,29,30,31,32,33,34,35,36,37,38,39,40,41,42,43,44,45,46,47,48,49,50,51,52,53,54,55,56,57,58,59,60,61,62,63,64,65,66,67,68,69,70,71,72,73,74,75,76,77,78,79,80,81,82,83,84,85,86,87,88,89,90,91,92,93,94,95,96,97,98,99])
section
variable {P:Program}{B:ZEk}{ks:List ZFr}{i j:Nat}{y:Code}{φ A:Act→World→Prop}
class ZNx(A:Act→World→Prop)(A':outParam (Act→World→Prop)):Prop where
 out:∀a w,A' a w→A a w
instance ZNx.e{e:Exit}:ZNx (ZEx P B [] e) (B e):=⟨fun _ _ h=>⟨h⟩⟩
instance ZNx.ns:ZNx (ZEx P B (.seq y::ks) .normal) (ZCd P B ks y):=⟨fun _ _ h=>⟨h.out⟩⟩
instance ZNx.nt:ZNx (ZEx P B (.top φ::ks) .normal) φ:=⟨fun _ _ h=>⟨h⟩⟩
instance ZNx.nb[h:ZNx (ZEx P B ks .normal) A]:ZNx (ZEx P B (.blk i::ks) .normal) A:=⟨fun a w k=>⟨(h.out a w k).out⟩⟩
instance ZNx.rs[h:ZNx (ZEx P B ks .ret) A]:ZNx (ZEx P B (.seq y::ks) .ret) A:=⟨fun a w k=>⟨(h.out a w k).out⟩⟩
instance ZNx.rt[h:ZNx (ZEx P B ks .ret) A]:ZNx (ZEx P B (.top φ::ks) .ret) A:=⟨fun a w k=>⟨(h.out a w k).out⟩⟩
instance ZNx.rb[h:ZNx (ZEx P B ks .ret) A]:ZNx (ZEx P B (.blk i::ks) .ret) A:=⟨fun a w k=>⟨(h.out a w k).out⟩⟩
instance ZNx.xs[h:ZNx (ZEx P B ks (.exit j)) A]:ZNx (ZEx P B (.seq y::ks) (.exit j)) A:=⟨fun a w k=>⟨(h.out a w k).out⟩⟩
instance ZNx.xt[h:ZNx (ZEx P B ks (.exit j)) A]:ZNx (ZEx P B (.top φ::ks) (.exit j)) A:=⟨fun a w k=>⟨(h.out a w k).out⟩⟩
instance (priority:=high) ZNx.xb[h:ZNx (ZEx P B ks .normal) A]:ZNx (ZEx P B (.blk i::ks) (.exit i)) A:=⟨fun a w k=>⟨by simpa [ZQs,Exit.inBlock] using (h.out a w k).out⟩⟩
instance ZNx.xo[e:ZFf (Zeqb j i)][h:ZNx (ZEx P B ks (.exit j)) A]:ZNx (ZEx P B (.blk i::ks) (.exit j)) A:=⟨fun a w k=>⟨by
 have c:j≠i:=fun b=>by subst b;have:=e.h;simp[Zeqb,Nat.beq_refl]at this
 simpa [ZQs,Exit.inBlock,c] using (h.out a w k).out⟩⟩
end
def Qn0(P:Program)(t f:Nat):Option Nat:=match P.underlying t with
 | some (.struct a)=>match a[f]? with
  | some x=>if Fy P x.type then some x.offset else none
  | none=>none
 | _=>none
class ZPs(o:Option Value)(p:outParam Addr):Prop where
 h:o=some (.pointer (some p))
instance ZPs.i{p:Addr}:ZPs (some (.pointer (some p))) p:=⟨rfl⟩
instance ZPs.m{a:Type}{f:a→Addr}{q:a}:ZPs (some (.pointer (Option.map f (some q)))) (f q):=⟨rfl⟩
class Qc(P:Program)(n:Nat)(ρ:Env)(Γ:List Assn)(o:Oper)(v:outParam Value):Prop where
 q:Qv P n ρ Γ o v
section
variable {P:Program}{n:Nat}{ρ:Env}{Γ Δ:List Assn}{ty:TypeId}{pos:String}{af:Array Edge}{gd:Option (Nat×Bool)}{ds:Option Tmp}{t yt e:TypeId}{x y c:Operand}{v:Value}{k:IntKind}{p q:Int}{b o:Nat}{cs:Array Value}
instance Qc.move[h:ZEv (ev ρ x) v]:Qc P n ρ Γ ⟨ds,.move x,ty,pos,af,gd⟩ v:=⟨Y8 h.h⟩
instance Qc.assign[h:ZEv (ev ρ x) v]:Qc P n ρ Γ ⟨ds,.assign x,ty,pos,af,gd⟩ v:=⟨G9 h.h⟩
instance Qc.nil{p:Addr}[h:ZPs (ev ρ x) p]:Qc P n ρ Γ ⟨ds,.nilCheck x,ty,pos,af,gd⟩ (.pointer (some p)):=⟨Qtg h.h⟩
instance Qc.field{f m:Nat}[a:Eo (Sz P t f) (some m)][h:ZEv (ev ρ x) (.pointer (some ⟨b,o,none⟩))]:Qc P n ρ Γ ⟨ds,.fieldAddr t x f,ty,pos,af,gd⟩ (.pointer (some ⟨b,o+m,none⟩)):=⟨Qw8 a.h h.h⟩
instance Qc.Zwr{f m:Nat}{vs:Array Value}[e:Eo (Qn0 P t f) (some m)][h:ZEv (ev ρ x) (.agg vs)][d:ZEv (lg vs.toList m) v]:Qc P n ρ Γ ⟨ds,.field t x f,ty,pos,af,gd⟩ v:=⟨by
 have a:=e.h;unfold Qn0 at a
 split at a
 ·rename_i i b
  split at a
  ·rename_i j c
   split at a
   ·rename_i g;cases a;exact Q4b b c g h.h (Qnk d.h)
   ·cases a
  ·cases a
 ·cases a⟩
instance Qc.load[c:Eo (Fy P t) true][h:ZEv (ev ρ x) (.pointer (some ⟨b,o,none⟩))][d:Mh Γ b e cs Δ][a:ZEv (lg cs.toList o) v]:Qc P n ρ Γ ⟨ds,.load t x,ty,pos,af,gd⟩ v:=⟨Gl c.h h.h a.h⟩
instance Qc.Zrz{m:Nat}{vs:List Value}[c:Eo (S5 P t) (some m)][h:ZEv (ev ρ x) (.pointer (some ⟨b,o,none⟩))][d:Mh Γ b e cs Δ][a:ZSg cs.toList o m vs]:Qc P n ρ Γ ⟨ds,.load t x,ty,pos,af,gd⟩ (.agg vs.toArray):=⟨Qmw vs c.h h.h a.h.1 a.h.2⟩
instance Qc.eq[h:ZEv (ev ρ x) (.int k p)][g:ZEv (ev ρ y) (.int k q)]:Qc P n ρ Γ ⟨ds,.binOp .eql t x y yt,ty,pos,af,gd⟩ (.bool (decide (p=q))):=⟨Zo1 h.h g.h⟩
instance Qc.ne[h:ZEv (ev ρ x) (.int k p)][g:ZEv (ev ρ y) (.int k q)]:Qc P n ρ Γ ⟨ds,.binOp .neq t x y yt,ty,pos,af,gd⟩ (.bool (decide (p≠q))):=⟨Zk4 h.h g.h⟩
instance Qc.lt[h:ZEv (ev ρ x) (.int k p)][g:ZEv (ev ρ y) (.int k q)]:Qc P n ρ Γ ⟨ds,.binOp .lss t x y yt,ty,pos,af,gd⟩ (.bool (decide (p<q))):=⟨Zox h.h g.h⟩
instance Qc.le[h:ZEv (ev ρ x) (.int k p)][g:ZEv (ev ρ y) (.int k q)]:Qc P n ρ Γ ⟨ds,.binOp .leq t x y yt,ty,pos,af,gd⟩ (.bool (decide (p≤q))):=⟨Zoy h.h g.h⟩
instance Qc.gt[h:ZEv (ev ρ x) (.int k p)][g:ZEv (ev ρ y) (.int k q)]:Qc P n ρ Γ ⟨ds,.binOp .gtr t x y yt,ty,pos,af,gd⟩ (.bool (decide (q<p))):=⟨Zoz h.h g.h⟩
instance Qc.ge[h:ZEv (ev ρ x) (.int k p)][g:ZEv (ev ρ y) (.int k q)]:Qc P n ρ Γ ⟨ds,.binOp .geq t x y yt,ty,pos,af,gd⟩ (.bool (decide (q≤p))):=⟨Zo0 h.h g.h⟩
instance Qc.neB{p q:Bool}[a:Eo (P.underlying t) (some .bool)][h:ZEv (ev ρ x) (.bool p)][g:ZEv (ev ρ y) (.bool q)]:Qc P n ρ Γ ⟨ds,.binOp .neq t x y yt,ty,pos,af,gd⟩ (.bool (p != q)):=⟨Zk3 a.h h.h g.h⟩
instance Qc.eqN{p:Option Addr}[a:Eo (P.underlying t) (some (.pointer e))][h:ZEv (ev ρ x) (.pointer p)][g:ZEv (ev ρ y) (.pointer none)]:Qc P n ρ Γ ⟨ds,.binOp .eql t x y yt,ty,pos,af,gd⟩ (.bool p.isNone):=⟨Zk6 a.h h.h g.h⟩
instance Qc.neN{p:Option Addr}[a:Eo (P.underlying t) (some (.pointer e))][h:ZEv (ev ρ x) (.pointer p)][g:ZEv (ev ρ y) (.pointer none)]:Qc P n ρ Γ ⟨ds,.binOp .neq t x y yt,ty,pos,af,gd⟩ (.bool (!p.isNone)):=⟨Zk2 a.h h.h g.h⟩
instance Qc.eqS{p:Option Addr}{l c a d:Nat}[b:Eo (P.underlying t) (some (.slice e))][h:ZEv (ev ρ x) (.slice p l c)][g:ZEv (ev ρ y) (.slice none a d)]:Qc P n ρ Γ ⟨ds,.binOp .eql t x y yt,ty,pos,af,gd⟩ (.bool p.isNone):=⟨Zhe b.h h.h g.h⟩
instance Qc.not{q:Bool}[h:ZEv (ev ρ x) (.bool q)]:Qc P n ρ Γ ⟨ds,.unOp .not t x,ty,pos,af,gd⟩ (.bool (!q)):=⟨Qw6 h.h⟩
instance Qc.ext{vs:Array Value}{i:Nat}[h:ZEv (ev ρ x) (.tuple vs)][g:ZEv (lg vs.toList i) v]:Qc P n ρ Γ ⟨ds,.extract x i,ty,pos,af,gd⟩ v:=⟨F8 h.h g.h⟩
instance Qc.Zrx[h:ZBw (ev ρ c) true][g:ZEv (ev ρ x) v]:Qc P n ρ Γ ⟨ds,.pick c x y,ty,pos,af,gd⟩ v:=⟨Zbh h.h rfl g.h⟩
instance Qc.Zry[h:ZBw (ev ρ c) false][g:ZEv (ev ρ y) v]:Qc P n ρ Γ ⟨ds,.pick c x y,ty,pos,af,gd⟩ v:=⟨Zbi h.h rfl g.h⟩
instance Qc.len{p:Option Addr}{l c:Nat}[a:Eo (P.underlying t) (some (.slice e))][h:ZEv (ev ρ x) (.slice p l c)]:Qc P n ρ Γ ⟨ds,.call {callee:=.builtin .len,args:=#[x],argTypes:=#[t]},ty,pos,af,gd⟩ (.int .i64 l):=⟨Zk5 a.h h.h⟩
instance Qc.Ztu{a d:TypeId}{kk:IntKind}{l:List (Int×Value)}[c:Eo (P.underlying t) (some (.map a d))][h:ZEv (ev ρ x) (.map (some b))][g:Pe Γ b kk l Δ]:Qc P n ρ Γ ⟨ds,.call {callee:=.builtin .len,args:=#[x],argTypes:=#[t]},ty,pos,af,gd⟩ (.int .i64 l.length):=⟨Zhc c.h h.h⟩
instance Qc.func{fn:Fn}{b xs:List Operand}{vs a:List Value}[h:ZEl ρ b vs][g:ZEl ρ xs a]:Qc P n ρ Γ ⟨ds,.makeFunc fn b.toArray xs.toArray,ty,pos,af,gd⟩ (.func fn vs.toArray a.toArray):=⟨Qgs h.h g.h⟩
end
class Yc{md:Bool}(n:Nat)(w0:WM md)(ρ:Env)(Γ:List Assn)(φ:Act→World→Prop)(ρ':outParam Env)(Γ':outParam (List Assn))(φ':outParam (Act→World→Prop)):Prop where
 go:S n w0 ρ' Γ' φ'→S n w0 ρ Γ φ
section
variable {P:Program}{n:Nat}{md:Bool}{w0:WM md}{ρ ρ':Env}{Γ Γ' Δ:List Assn}{φ φ' A:Act→World→Prop}{B:ZEk}{ks:List ZFr}{ops rest l:List Oper}{op:Op}{ty:TypeId}{pos:String}{af:Array Edge}{d i g t:Nat}{c x y:Code}{z z':Operand}{v:Value}{b want:Bool}{o:Oper}
theorem Zy[h:Yc n w0 ρ Γ φ ρ' Γ' φ'](k:S n w0 ρ' Γ' φ'):S n w0 ρ Γ φ:=h.go k
theorem ZS(k:S n w0 ρ Γ (ZCd P B [] c)):S n w0 ρ Γ (c.wp P B):=k.mono fun _ _ h=>h.out
theorem S.nx[h:ZNx φ A](k:S n w0 ρ Γ A):S n w0 ρ Γ φ:=k.mono h.out
theorem S.cd(k:S n w0 ρ Γ (c.wp P (ZQs P B ks))):S n w0 ρ Γ (ZCd P B ks c):=k.mono fun _ _ h=>⟨h⟩
theorem S.un(k:S n w0 ρ Γ (ZCd P B ks c)):S n w0 ρ Γ (c.wp P (ZQs P B ks)):=k.mono fun _ _ h=>h.out
theorem S.Zkz{Q:ZEk}(h:S n w0 ρ Γ (x.wp P (Exit.then (y.wp P Q) Q))):S n w0 ρ Γ ((Code.seq x y).wp P Q):=fun a w d c b=>wp_seq (h a w d c b)
instance Yc.seq:Yc n w0 ρ Γ (ZCd P B ks (.seq x y)) ρ Γ (ZCd P B (.seq y::ks) x):=⟨fun h=>S.cd (S.Zkz (h.mono fun _ _ h=>h.out))⟩
instance Yc.region{id:Nat}:Yc n w0 ρ Γ (ZCd P B ks (.region id l.toArray false)) ρ Γ (ZOl P B ks l l):=⟨fun h=>S.cd (S.Za6 (h.mono fun _ _ h=>h.out))⟩
instance Yc.skip[h:ZNx (ZEx P B ks .normal) A]:Yc n w0 ρ Γ (ZCd P B ks .skip) ρ Γ A:=⟨fun k=>S.cd (S.skip ((S.nx (φ:=ZEx P B ks .normal) k).mono fun _ _ h=>h.out))⟩
instance Yc.ret[h:ZNx (ZEx P B ks .ret) A]:Yc n w0 ρ Γ (ZCd P B ks .ret) ρ Γ A:=⟨fun k=>S.cd (S.ret ((S.nx (φ:=ZEx P B ks .ret) k).mono fun _ _ h=>h.out))⟩
instance Yc.exit[h:ZNx (ZEx P B ks (.exit i)) A]:Yc n w0 ρ Γ (ZCd P B ks (.exit i)) ρ Γ A:=⟨fun k=>S.cd (S.exit ((S.nx (φ:=ZEx P B ks (.exit i)) k).mono fun _ _ h=>h.out))⟩
instance Yc.block:Yc n w0 ρ Γ (ZCd P B ks (.block i c)) ρ Γ (ZCd P B (.blk i::ks) c):=⟨fun h=>S.cd (S.block (h.mono fun _ _ h=>h.out))⟩
instance Yc.Qrt[h:ZBw (ev ρ z) true]:Yc n w0 ρ Γ (ZCd P B ks (.cond z x y)) ρ Γ (ZCd P B ks x):=⟨fun k=>S.cd (S.Qrt h.h k.un)⟩
instance Yc.Qec[h:ZBw (ev ρ z) false]:Yc n w0 ρ Γ (ZCd P B ks (.cond z x y)) ρ Γ (ZCd P B ks y):=⟨fun k=>S.cd (S.Qec h.h k.un)⟩
instance Yc.nil[h:ZNx (ZEx P B ks .normal) A]:Yc n w0 ρ Γ (ZOl P B ks ops []) ρ Γ A:=⟨fun k=>(S.nx (φ:=ZEx P B ks .normal) k).mono fun _ _ h=>⟨h.out⟩⟩
theorem Zp(h:S n w0 ρ Γ (Ow P (ZQs P B ks) o (ZOl P B ks ops rest)))(a:o.guard=none:=by rfl):S n w0 ρ Γ (ZOl P B ks ops (o::rest)):=
 (S.Zrk (ops:=ops.toArray) a (h.mono fun _ _ h=>Oper.wp_mono (fun _ _ h=>h.out) h)).mono fun _ _ h=>⟨h⟩
theorem Zg{ds:Option Tmp}(c:Zgds ops g=some t)(d:Env.get ρ t=some (.bool b))(a:b=want)(h:S n w0 ρ Γ (Ow P (ZQs P B ks) ⟨ds,op,ty,pos,af,some (g,want)⟩ (ZOl P B ks ops rest))):S n w0 ρ Γ (ZOl P B ks ops (⟨ds,op,ty,pos,af,some (g,want)⟩::rest)):=
 (S.Zni (ops:=ops.toArray) rfl (Nn c) d a (h.mono fun _ _ h=>Oper.wp_mono (fun _ _ h=>h.out) h)).mono fun _ _ h=>⟨h⟩
theorem Zn(e:Zgds ops g=some t)(f:Env.get ρ t=some (.bool b))(a:b=!want)(h:S n w0 ((d,undef)::ρ) Γ (ZOl P B ks ops rest))(c:Nat.blt d n=true:=by rfl):S n w0 ρ Γ (ZOl P B ks ops (⟨some d,op,ty,pos,af,some (g,want)⟩::rest)):=
 (S.Zrl (ops:=ops.toArray) rfl (Nn e) f a rfl c (h.mono fun _ _ h=>h.out)).mono fun _ _ h=>⟨h⟩
theorem Zv(a:Qv P n ρ Γ ⟨some d,op,ty,pos,af,none⟩ v)(k:S n w0 ((d,v)::ρ) Γ (ZOl P B ks ops rest))(b:Nat.blt d n=true:=by rfl):S n w0 ρ Γ (ZOl P B ks ops (⟨some d,op,ty,pos,af,none⟩::rest)):=Zp (S.q a rfl b k)
theorem Zvg(f:Zgds ops g=some t)(h:Env.get ρ t=some (.bool b))(c:b=want)(a:Qv P n ρ Γ ⟨some d,op,ty,pos,af,some (g,want)⟩ v)(k:S n w0 ((d,v)::ρ) Γ (ZOl P B ks ops rest))(e:Nat.blt d n=true:=by rfl):S n w0 ρ Γ (ZOl P B ks ops (⟨some d,op,ty,pos,af,some (g,want)⟩::rest)):=Zg f h c (S.q a rfl e k)
instance Yc.q[h:Qc P n ρ Γ ⟨some d,op,ty,pos,af,none⟩ v][a:ZLb d n]:Yc n w0 ρ Γ (ZOl P B ks ops (⟨some d,op,ty,pos,af,none⟩::rest)) ((d,v)::ρ) Γ (ZOl P B ks ops rest):=⟨fun k=>Zp (S.q h.q rfl a.h k)⟩
instance Yc.gy[b:ZEd (Zgds ops g) t][c:ZBw (Env.get ρ t) want][h:Qc P n ρ Γ ⟨some d,op,ty,pos,af,some (g,want)⟩ v][a:ZLb d n]:Yc n w0 ρ Γ (ZOl P B ks ops (⟨some d,op,ty,pos,af,some (g,want)⟩::rest)) ((d,v)::ρ) Γ (ZOl P B ks ops rest):=⟨fun k=>Zg b.h c.h rfl (S.q h.q rfl a.h k)⟩
instance Yc.gnT[b:ZEd (Zgds ops g) t][c:ZBw (Env.get ρ t) true][a:ZLb d n]:Yc n w0 ρ Γ (ZOl P B ks ops (⟨some d,op,ty,pos,af,some (g,false)⟩::rest)) ((d,undef)::ρ) Γ (ZOl P B ks ops rest):=⟨fun k=>Zn b.h c.h rfl k a.h⟩
instance Yc.gnF[b:ZEd (Zgds ops g) t][c:ZBw (Env.get ρ t) false][a:ZLb d n]:Yc n w0 ρ Γ (ZOl P B ks ops (⟨some d,op,ty,pos,af,some (g,true)⟩::rest)) ((d,undef)::ρ) Γ (ZOl P B ks ops rest):=⟨fun k=>Zn b.h c.h rfl k a.h⟩
instance Yc.gnU[b:ZEd (Zgds ops g) t][c:ZEv (Env.get ρ t) undef][a:ZLb d n]:Yc n w0 ρ Γ (ZOl P B ks ops (⟨some d,op,ty,pos,af,some (g,want)⟩::rest)) ((d,undef)::ρ) Γ (ZOl P B ks ops rest):=⟨fun k=>(S.Znj (ops:=ops.toArray) rfl (Nn b.h) c.h rfl a.h (k.mono fun _ _ h=>h.out)).mono fun _ _ h=>⟨h⟩⟩
instance Yc.store{b a:Nat}{e ts:TypeId}{cs:List Value}{cs':List Value}[h:Eo (Fy P ts) true][f:ZEv (ev ρ z) (.pointer (some ⟨b,a,none⟩))][d:ZEv (ev ρ z') v][g:ZOc v][i:Mh Γ b e cs.toArray Δ][c:ZSl cs a v cs']:Yc n w0 ρ Γ (ZOl P B ks ops (⟨none,.store ts z z',ty,pos,af,none⟩::rest)) ρ (blk b e cs'.toArray::Δ) (ZOl P B ks ops rest):=
 ⟨fun k=>Zp (S.store h.h f.h d.h g.h (by have:=c.b;simp[Nat.blt];omega) c.h k)⟩
theorem Zi(a:ev ρ z=some (.bool b))(d:b=true→S n w0 ρ Γ (ZCd P B ks x))(c:b=false→S n w0 ρ Γ (ZCd P B ks y)):S n w0 ρ Γ (ZCd P B ks (.cond z x y)):=S.cd (S.cond a (fun e=>(d e).un) (fun e=>(c e).un))
theorem Zj{p:Prop}[d:Decidable p](a:ev ρ z=some (.bool (decide p)))(c:p→S n w0 ρ Γ (ZCd P B ks x))(b:¬p→S n w0 ρ Γ (ZCd P B ks y)):S n w0 ρ Γ (ZCd P B ks (.cond z x y)):=S.cd (S.Zgb a (fun e=>(c e).un) (fun e=>(b e).un))
theorem ZT(a:ev ρ z=some (.bool true))(k:S n w0 ρ Γ (ZCd P B ks x)):S n w0 ρ Γ (ZCd P B ks (.cond z x y)):=S.cd (S.Qrt a k.un)
theorem ZF(a:ev ρ z=some (.bool false))(k:S n w0 ρ Γ (ZCd P B ks y)):S n w0 ρ Γ (ZCd P B ks (.cond z x y)):=S.cd (S.Qec a k.un)
theorem Zc(I:Env→List Assn→Prop)[d:ZNx (ZEx P B ks .normal) A](h:S n w0 ρ Γ (ZCd P B (.top (Cut n w0 I)::ks) c))(k:∀ρ Γ,I ρ Γ→S n w0 ρ Γ A):S n w0 ρ Γ (ZCd P B ks c):=by
 intro a w i f g;refine⟨Code.wp_mono (fun e a w b=>?_) (h a w i f g).out⟩;cases e with
 | normal=>obtain⟨ρ,Γ,j,o,m,l⟩:=b;exact(d.out _ _ (k ρ Γ j a w o m l)).out
 | _=>exact b
theorem Zl(I:Nat→Env→List Assn→Prop){m:Nat}{a:Env}{b:List Assn}(h0:I m a b)(round:∀m ρ Γ,I m ρ Γ→S n w0 ρ Γ (ZCd P B (.top (Next n w0 I m)::ks) c))[e:Sub b Γ](d:Ad a ρ:=by repeat (first|exact trivial|refine⟨rfl,?_⟩)):S n w0 ρ Γ (ZCd P B ks (.loop c)):=
 S.cd (S.loop I h0 d e.Qs fun m ρ Γ h=>(round m ρ Γ h).un)
theorem ZM{I:Env→List Assn→Prop}{ρ':Env}{Γ':List Assn}(c:I ρ' Γ')[b:Sub Γ' Γ](a:Ad ρ' ρ:=by repeat (first|exact trivial|refine⟨rfl,?_⟩)):S n w0 ρ Γ (Cut n w0 I):=S.meet c a b.Qs
theorem ZX{I:Nat→Env→List Assn→Prop}{m:Nat}(a:Nat){ρ':Env}{Γ':List Assn}(e:I a ρ' Γ')(d:a < m)[c:Sub Γ' Γ](b:Ad ρ' ρ:=by repeat (first|exact trivial|refine⟨rfl,?_⟩)):S n w0 ρ Γ (Next n w0 I m):=S.next a e d b c.Qs
def Zdsc(ops:Array Oper)(listed:Array Bool)(i:Nat):List Nat:=
 (List.range ops.size).foldl (fun a j=>if listed.getD j false then a else match ops[j]? with
  | none=>a
  | some o=>if o.after.any fun e=>Region.binds .any e&&(e.on==i || a.contains e.on) then a++[j] else a) []
def Qbc(ops:Array Oper)(late:List Nat):Nat→Array Bool→List Nat→Bool
 | _,_,[]=>true
 | 0,_,_::_=>false
 | f+1,listed,i::is=>B4 ops listed i late (Zdsc ops listed i)&&Qbc ops late f (listed.setIfInBounds i true) is
structure ZDq(P:Program)(B:ZEk)(ks:List ZFr)(ops:List Oper)(Hs:List Assn)(late:List Nat)(f:Nat)(listed:Array Bool)(is:List Nat)(a:Act)(w:World):Prop where
 out:Qbc ops.toArray late f listed is=true→Dr P ops.toArray (ZQs P B ks) Hs late f listed a w
section
variable {Hs:List Assn}{late is:List Nat}{f f':Nat}{listed:Array Bool}
theorem Zd{id:Nat}(Hs:List Assn)(late is:List Nat)(k:S n w0 ρ Γ (ZDq P B ks l Hs late l.toArray.size (Array.replicate l.toArray.size false) is))[b:Eo (P.follows .mixedOrders) true](a:Qbc l.toArray late l.toArray.size (Array.replicate l.toArray.size false) is=true:=by kernel_rfl):S n w0 ρ Γ (ZCd P B ks (.region id l.toArray true)):=
 S.cd (S.draw Hs late b.h (k.mono fun _ _ h=>h.out a))
theorem Zr(is:List Nat)(k:S n w0 ρ Γ (ZDq P B ks ops Hs late f listed is))(a:Qbc ops.toArray late f listed is=true:=by kernel_rfl):S n w0 ρ Γ (ZDq P B ks ops Hs late f listed []):=k.mono fun _ _ h=>⟨fun _=>h.out a⟩
theorem ZDq.take(h:∀f',B4 ops.toArray listed i late (Zdsc ops.toArray listed i)=true→S n w0 ρ' Γ' (Dr P ops.toArray (ZQs P B ks) Hs late f' (listed.setIfInBounds i true))→S n w0 ρ Γ (Dr P ops.toArray (ZQs P B ks) Hs late (f'+1) listed))(k:S n w0 ρ' Γ' (ZDq P B ks ops Hs late (f-1) (listed.setIfInBounds i true) is)):S n w0 ρ Γ (ZDq P B ks ops Hs late f listed (i::is)):=by
 intro a w e d c;refine⟨fun b=>?_⟩;cases f with
 | zero=>cases b
 | succ f=>
  simp only[Qbc,Z5]at b;exact h f b.1 (k.mono fun _ _ h=>h.out b.2) a w e d c
theorem Zw(g:Znth ops i=some ⟨some d,op,ty,pos,af,none⟩)(b:Qv P n ρ Hs ⟨some d,op,ty,pos,af,none⟩ v)(k:S n w0 ((d,v)::ρ) Γ (ZDq P B ks ops Hs late (f-1) (listed.setIfInBounds i true) is))[c:Sub Hs Γ](e:Nat.blt d n=true:=by rfl):S n w0 ρ Γ (ZDq P B ks ops Hs late f listed (i::is)):=
 ZDq.take (fun _ a k=>S.Zdy i _ ((Fm _ _).trans g) a rfl rfl e b c.Qs k) k
theorem Zwg(l:Znth ops i=some ⟨some d,op,ty,pos,af,some (g,want)⟩)(m:Zgds ops g=some t)(o:Env.get ρ t=some (.bool b))(e:b=want)(c:Qv P n ρ Hs ⟨some d,op,ty,pos,af,some (g,want)⟩ v)(k:S n w0 ((d,v)::ρ) Γ (ZDq P B ks ops Hs late (f-1) (listed.setIfInBounds i true) is))[h:Sub Hs Γ](j:Nat.blt d n=true:=by rfl):S n w0 ρ Γ (ZDq P B ks ops Hs late f listed (i::is)):=
 ZDq.take (fun _ a k=>S.Q7r i _ ((Fm _ _).trans l) a rfl (Nn m) o e rfl j c h.Qs k) k
theorem Zwn(j:Znth ops i=some ⟨some d,op,ty,pos,af,some (g,want)⟩)(l:Zgds ops g=some t)(m:Env.get ρ t=some (.bool b))(c:b=!want)(k:S n w0 ((d,undef)::ρ) Γ (ZDq P B ks ops Hs late (f-1) (listed.setIfInBounds i true) is))[e:Sub Hs Γ](h:Nat.blt d n=true:=by rfl):S n w0 ρ Γ (ZDq P B ks ops Hs late f listed (i::is)):=
 ZDq.take (fun _ a k=>S.Q7t i _ ((Fm _ _).trans j) a rfl (Nn l) m c rfl h e.Qs k) k
instance Yc.d0[b:Qve (Znth ops i) ⟨some d,op,ty,pos,af,none⟩][h:Qc P n ρ Hs ⟨some d,op,ty,pos,af,none⟩ v][c:Sub Hs Γ][a:ZLb d n]:Yc n w0 ρ Γ (ZDq P B ks ops Hs late f listed (i::is)) ((d,v)::ρ) Γ (ZDq P B ks ops Hs late (f-1) (listed.setIfInBounds i true) is):=⟨fun k=>Zw b.h h.q k a.h⟩
instance Yc.dy[b:Qve (Znth ops i) ⟨some d,op,ty,pos,af,some (g,want)⟩][c:ZEd (Zgds ops g) t][e:ZBw (Env.get ρ t) want][h:Qc P n ρ Hs ⟨some d,op,ty,pos,af,some (g,want)⟩ v][j:Sub Hs Γ][a:ZLb d n]:Yc n w0 ρ Γ (ZDq P B ks ops Hs late f listed (i::is)) ((d,v)::ρ) Γ (ZDq P B ks ops Hs late (f-1) (listed.setIfInBounds i true) is):=⟨fun k=>Zwg b.h c.h e.h rfl h.q k a.h⟩
instance Yc.dT[b:Qve (Znth ops i) ⟨some d,op,ty,pos,af,some (g,false)⟩][c:ZEd (Zgds ops g) t][e:ZBw (Env.get ρ t) true][h:Sub Hs Γ][a:ZLb d n]:Yc n w0 ρ Γ (ZDq P B ks ops Hs late f listed (i::is)) ((d,undef)::ρ) Γ (ZDq P B ks ops Hs late (f-1) (listed.setIfInBounds i true) is):=⟨fun k=>Zwn b.h c.h e.h rfl k a.h⟩
instance Yc.dF[b:Qve (Znth ops i) ⟨some d,op,ty,pos,af,some (g,true)⟩][c:ZEd (Zgds ops g) t][e:ZBw (Env.get ρ t) false][h:Sub Hs Γ][a:ZLb d n]:Yc n w0 ρ Γ (ZDq P B ks ops Hs late f listed (i::is)) ((d,undef)::ρ) Γ (ZDq P B ks ops Hs late (f-1) (listed.setIfInBounds i true) is):=⟨fun k=>Zwn b.h c.h e.h rfl k a.h⟩
instance Yc.dU[e:Qve (Znth ops i) ⟨some d,op,ty,pos,af,some (g,want)⟩][h:ZEd (Zgds ops g) t][j:ZEv (Env.get ρ t) undef][b:Sub Hs Γ][c:ZLb d n]:Yc n w0 ρ Γ (ZDq P B ks ops Hs late f listed (i::is)) ((d,undef)::ρ) Γ (ZDq P B ks ops Hs late (f-1) (listed.setIfInBounds i true) is):=
 ⟨fun k=>ZDq.take (fun _ a k=>S.Q1n i _ ((Fm _ _).trans e.h) a rfl (Nn h.h) j.h rfl c.h b.Qs k) k⟩
theorem ZD[b:ZNx (ZEx P B ks .normal) A](k:S n w0 ρ Γ A)(a:Region.ready .any ops.toArray listed=[]:=by kernel_rfl):S n w0 ρ Γ (ZDq P B ks ops Hs late f listed []):=
 (S.Zd1 (Q:=ZQs P B ks) a ((S.nx (φ:=ZEx P B ks .normal) k).mono fun _ _ h=>h.out)).mono fun _ _ h=>⟨fun _=>h⟩
theorem ZP(i:Nat)(is:List Nat)(j:Znth ops i=some o)(c:Qv P n ρ [] o v)(m:f=f'+1)(k:S n w0 ((d,v)::ρ) Γ (ZDq P B ks ops Hs late f' (listed.setIfInBounds i true) is))[e:Sub Hs Γ](p:o.dst=some d:=by rfl)(a:Ql8 ops.toArray listed i late=true:=by kernel_rfl)(b:Qbc ops.toArray late f' (listed.setIfInBounds i true) is=true:=by kernel_rfl)(l:o.guard=none:=by rfl)(g:Nat.blt d n=true:=by rfl):S n w0 ρ Γ (ZDq P B ks ops Hs late f listed []):=by
 subst m;exact(S.Q7s i ((Fm _ _).trans j) a l p g c e.Qs (k.mono fun _ _ h=>h.out b)).mono fun _ _ h=>⟨fun _=>h⟩
theorem Z1(b:Znth ops i=some o)(d:f=f'+1)(h:S n w0 ρ Γ (Ow P (NoPanic (ZQs P B ks)) o (DrK P ops.toArray (ZQs P B ks) Hs late f' listed i)))(a:Region.ready .any ops.toArray listed=[i]:=by kernel_rfl)(c:o.guard=none:=by rfl):S n w0 ρ Γ (ZDq P B ks ops Hs late f listed []):=by
 subst d;exact(S.Zrp a ((Fm _ _).trans b) c h).mono fun _ _ h=>⟨fun _=>h⟩
theorem Z1g(d:Znth ops i=some o)(j:f=f'+1)(e:o.guard=some (g,want))(k:Zgds ops g=some t)(l:Env.get ρ t=some (.bool b))(a:b=want)(h:S n w0 ρ Γ (Ow P (NoPanic (ZQs P B ks)) o (DrK P ops.toArray (ZQs P B ks) Hs late f' listed i)))(c:Region.ready .any ops.toArray listed=[i]:=by kernel_rfl):S n w0 ρ Γ (ZDq P B ks ops Hs late f listed []):=by
 subst j;exact(S.Znl c ((Fm _ _).trans d) e (Nn k) l a h).mono fun _ _ h=>⟨fun _=>h⟩
theorem Z2{i j:Nat}{o p:Oper}(d:Znth ops i=some o)(c:Znth ops j=some p)(g:f=f'+1)(l:S n w0 ρ Γ (Ow P (NoPanic (ZQs P B ks)) o (DrK P ops.toArray (ZQs P B ks) Hs late f' listed i)))(k:S n w0 ρ Γ (Ow P (NoPanic (ZQs P B ks)) p (DrK P ops.toArray (ZQs P B ks) Hs late f' listed j)))(b:Region.ready .any ops.toArray listed=[i,j]:=by kernel_rfl)(e:o.guard=none:=by rfl)(a:p.guard=none:=by rfl):S n w0 ρ Γ (ZDq P B ks ops Hs late f listed []):=by
 subst g;exact(S.Zro b ((Fm _ _).trans d) e ((Fm _ _).trans c) a l k).mono fun _ _ h=>⟨fun _=>h⟩
theorem Zk(is:List Nat)(k:S n w0 ρ Γ (ZDq P B ks ops Hs late f (listed.setIfInBounds i true) is))[b:Sub Hs Γ](c:late.contains i=false:=by rfl)(a:Qbc ops.toArray late f (listed.setIfInBounds i true) is=true:=by kernel_rfl):S n w0 ρ Γ (DrK P ops.toArray (ZQs P B ks) Hs late f listed i):=S.Zrn c b.Qs (k.mono fun _ _ h=>h.out a)
theorem ZL(a:List Assn)(is:List Nat)(k:S n w0 ρ Γ (ZDq P B ks ops a [] f (listed.setIfInBounds i true) is))(c:late.contains i=true:=by rfl)(b:Qbc ops.toArray [] f (listed.setIfInBounds i true) is=true:=by kernel_rfl):S n w0 ρ Γ (DrK P ops.toArray (ZQs P B ks) Hs late f listed i):=S.Zdz a [] c (k.mono fun _ _ h=>h.out b)
end
class ZYn{md:Bool}(k n:Nat)(w0:WM md)(ρ:Env)(Γ:List Assn)(φ:Act→World→Prop)(ρ':outParam Env)(Γ':outParam (List Assn))(φ':outParam (Act→World→Prop)):Prop where
 go:S n w0 ρ' Γ' φ'→S n w0 ρ Γ φ
instance ZYn.i0:ZYn 0 n w0 ρ Γ φ ρ Γ φ:=⟨fun h=>h⟩
instance ZYn.i1{k:Nat}{b:Env}{c:List Assn}{a:Act→World→Prop}[h:Yc n w0 ρ Γ φ ρ' Γ' φ'][g:ZYn k n w0 ρ' Γ' φ' b c a]:ZYn (k+1) n w0 ρ Γ φ b c a:=⟨fun k=>h.go (g.go k)⟩
theorem ZY(m:Nat)[h:ZYn m n w0 ρ Γ φ ρ' Γ' φ'](k:S n w0 ρ' Γ' φ'):S n w0 ρ Γ φ:=h.go k
theorem Ze{xs:List Operand}{vs:List Value}[h:ZEl ρ xs vs]:EvL ρ xs vs:=h.h
class ZRl(P:Program)(ρ:Env)(Γ:List Assn)(rs:List ResultVar)(vs:outParam (List Value)):Prop where
 h:Qbf P ρ Γ rs vs
instance ZRl.i0:ZRl P ρ Γ [] []:=⟨trivial⟩
instance ZRl.i1{rs:List ResultVar}{vs:List Value}[h:ZEv (Env.get ρ t) v][g:ZRl P ρ Γ rs vs]:ZRl P ρ Γ (.tmp t::rs) (v::vs):=⟨h.h,g.h⟩
instance ZRl.i3{rs:List ResultVar}{b vs:List Value}{d a e ts m:Nat}{cs:Array Value}[h:ZEv (Env.get ρ t) (.pointer (some ⟨d,a,none⟩))][f:Eo (S5 P ts) (some m)][i:Mh Γ d e cs Δ][c:ZSg cs.toList a m b][g:ZRl P ρ Γ rs vs]:ZRl P ρ Γ (.cell t ts::rs) (.agg b.toArray::vs):=⟨⟨_,_,h.h,Zcb b f.h c.h.1 c.h.2⟩,g.h⟩
theorem Zq{rs:List ResultVar}{vs:List Value}[h:ZRl P ρ Γ rs vs]:Qbf P ρ Γ rs vs:=h.h
theorem Zf{fn:Func}{post:List Assn→Value→List Assn→Prop}{a b:List Assn}{rs:List ResultVar}{vs:List Value}(c:fn.results=rs.toArray)(e:Qbf P ρ Γ rs vs)(d:post a (Vt vs) b)[f:Sub b Γ]:S n w0 ρ Γ (Fin P fn post a w0 .ret):=S.fin c e d f.Qs
theorem Zfn{fn:Func}{post:List Assn→Value→List Assn→Prop}{a b:List Assn}{rs:List ResultVar}{vs:List Value}(c:fn.results=rs.toArray)(e:Qbf P ρ Γ rs vs)(d:post a (Vt vs) b)[f:Sub b Γ]:S n w0 ρ Γ (Fin P fn post a w0 .normal):=S.Zrm c e d f.Qs
theorem S.now(i:Env.get ρ t=some (.bool b))(g:b=want)(k:S n w0 ((t,.bool want)::ρ) Γ φ):S n w0 ρ Γ φ:=fun a w d h f=>k a w ⟨d.size,d.defers,fun s v c=>by
 unfold Env.get at c
 split at c
 ·rename_i e;cases c;rw[←Qbk e,←g];exact d.get _ _ i
 ·exact d.get _ _ c⟩ h f
theorem Zu(t:Nat)(want:Bool)(c:Env.get ρ t=some (.bool b))(a:b=want)(k:S n w0 ((t,.bool want)::ρ) Γ φ):S n w0 ρ Γ φ:=S.now c a k
theorem Zb(t:Nat){p:Prop}[d:Decidable p](a:Env.get ρ t=some (.bool (decide p)))(c:p→S n w0 ((t,.bool true)::ρ) Γ φ)(b:¬p→S n w0 ((t,.bool false)::ρ) Γ φ):S n w0 ρ Γ φ:=by
 by_cases h:p
 ·exact S.now a (Zh h) (c h)
 ·exact S.now a (Q6 h) (b h)
theorem Zbb(t:Nat)(a:Env.get ρ t=some (.bool b))(d:b=true→S n w0 ((t,.bool true)::ρ) Γ φ)(c:b=false→S n w0 ((t,.bool false)::ρ) Γ φ):S n w0 ρ Γ φ:=by
 cases h:b
 ·exact S.now a h (c h)
 ·exact S.now a h (d h)
section
variable {ts:TypeId}{Q:ZEk}{K:Act→World→Prop}{xs:List Operand}{ats:Array TypeId}{vs:List Value}{pre:List Assn}{post:List Assn→Value→List Assn→Prop}{f:FuncId}{gd:Option (Nat×Bool)}
theorem Zc1(a:EvL ρ xs vs)(c:Spec P f vs pre post md)(k:∀v b,post Δ v b→S n w0 ((d,v)::ρ) b K)[g:Eo (Jj P f) true][h:Picks pre Γ Δ](e:Nat.blt d n=true:=by rfl):S n w0 ρ Γ (Ow P Q ⟨some d,.call {callee:=.value (.func f),args:=xs.toArray,argTypes:=ats},ty,pos,af,gd⟩ K):=S.call g.h a c e k
theorem Zcp{V:Value}{F:List Assn→List Assn}(a:EvL ρ xs vs)(c:Spec P f vs pre (fun Γ v b=>v=V∧b=F Γ) md)(k:S n w0 ((d,V)::ρ) (F Δ) K)[g:Eo (Jj P f) true][h:Picks pre Γ Δ](e:Nat.blt d n=true:=by rfl):S n w0 ρ Γ (Ow P Q ⟨some d,.call {callee:=.value (.func f),args:=xs.toArray,argTypes:=ats},ty,pos,af,gd⟩ K):=S.call g.h a c e (by rintro _ _ ⟨rfl,rfl⟩;exact k)
variable {x y:Operand}{kk:IntKind}{p q:Int}{yt:TypeId}{ds:Option Tmp}
theorem Zs{b e m r:Nat}{a:Array Value}{cs:Array Value}{cs':List Value}(d:ev ρ x=some (.pointer (some ⟨b,r,none⟩)))(c:ev ρ y=some (.agg a))(i:cs.toList.take r++a.toList++cs.toList.drop (r+a.size)=cs')(k:S n w0 ρ (blk b e cs'.toArray::Δ) K)[f:Eo (S5 P ts) (some m)][l:Mh Γ b e cs Δ](h:a.size=m:=by rfl)(j:Ee a.toList=true:=by rfl)(g:Nat.ble (r+a.size) cs.size=true:=by rfl):S n w0 ρ Γ (Ow P Q ⟨none,.store ts x y,ty,pos,af,gd⟩ K):=S.Qs3 f.h d c h j g i k
theorem Qq0(h:(kk=.i64∧-9223372036854775808≤p∧p≤9223372036854775807)∨(kk=.u32∧0≤p∧p≤4294967295)∨(kk=.u8∧0≤p∧p≤255)∨(kk=.u64∧0≤p∧p≤18446744073709551615)∨(kk=.u16∧0≤p∧p≤65535)):kk.min≤p∧p≤kk.max:=by
 rcases h with ⟨rfl,h⟩|⟨rfl,h⟩|⟨rfl,h⟩|⟨rfl,h⟩|⟨rfl,h⟩ <;> simpa [IntKind.min,IntKind.max,IntKind.signed,IntKind.bits] using h
theorem Za(b:ev ρ x=some (.int kk p))(a:ev ρ y=some (.int kk q))(h:kk.min≤p+q∧p+q≤kk.max:=by first|exact Qq0 (.inl ⟨rfl,Qb,Qb⟩)|exact Qq0 (.inr (.inl ⟨rfl,Qb,Qb⟩))|exact Qq0 (.inr (.inr (.inl ⟨rfl,Qb,Qb⟩)))|exact Qq0 (.inr (.inr (.inr (.inl ⟨rfl,Qb,Qb⟩))))):Qv P n ρ Γ ⟨ds,.binOp .add ts x y yt,ty,pos,af,gd⟩ (.int kk (p+q)):=Bm b a h
theorem Zm(b:ev ρ x=some (.int kk p))(a:ev ρ y=some (.int kk q))(h:kk.min≤p-q∧p-q≤kk.max:=by first|exact Qq0 (.inl ⟨rfl,Qb,Qb⟩)|exact Qq0 (.inr (.inl ⟨rfl,Qb,Qb⟩))|exact Qq0 (.inr (.inr (.inl ⟨rfl,Qb,Qb⟩)))|exact Qq0 (.inr (.inr (.inr (.inl ⟨rfl,Qb,Qb⟩))))):Qv P n ρ Γ ⟨ds,.binOp .sub ts x y yt,ty,pos,af,gd⟩ (.int kk (p-q)):=Qkh b a h
theorem Zx{c a l m e b:Nat}{d:Option Addr}(i:Nat)(h:ev ρ x=some (.slice d l m))(k:d=some ⟨c,a,none⟩)(g:ev ρ y=some (.int kk p))(o:i<l)[j:Eo (Nw P ts) (some (e,b))](f:p=((i:Nat):Int):=by rfl):Qv P n ρ Γ ⟨ds,.indexAddr ts x y,ty,pos,af,gd⟩ (.pointer (some ⟨c,a+i*b,none⟩)):=Q4a i j.h h k g f o
theorem Zo{c a e d off:Nat}{b:List Value}(s:SV)(j:Nat)(f:ev ρ x=some (.pointer (some ⟨c,a,none⟩)))(k:s.a=some ⟨c,off,none⟩)(g:b[j]?=some v)[i:Eo (Fy P ts) true][h:Uo Γ s e d b Δ](l:a=off+j:=by first|rfl|exact Xr _ _ _|omega):Qv P n ρ Γ ⟨ds,.load ts x,ty,pos,af,gd⟩ v:=Q37 s j i.h f k l g
end
class ZAe(l:List Value)(ρ:outParam Env):Prop where
 h:Nl 0 l=ρ
instance ZAe.i0:ZAe [] []:=⟨rfl⟩
instance ZAe.i1{a:Value}:ZAe [a] [(0,a)]:=⟨rfl⟩
instance ZAe.i2{a b:Value}:ZAe [a,b] [(0,a),(1,b)]:=⟨rfl⟩
instance ZAe.i3{a b c:Value}:ZAe [a,b,c] [(0,a),(1,b),(2,c)]:=⟨rfl⟩
instance ZAe.i4{a b c d:Value}:ZAe [a,b,c,d] [(0,a),(1,b),(2,c),(3,d)]:=⟨rfl⟩
instance ZAe.i5{a b c d e:Value}:ZAe [a,b,c,d,e] [(0,a),(1,b),(2,c),(3,d),(4,e)]:=⟨rfl⟩
class ZAp(pre Γ:List Assn)(r:outParam (List Assn)):Prop where
 h:pre++Γ=r
instance ZAp.i0:ZAp [] Γ Γ:=⟨rfl⟩
instance ZAp.i1{A:Assn}{pre r:List Assn}[h:ZAp pre Γ r]:ZAp (A::pre) Γ (A::r):=⟨by rw[Nx,h.h]⟩
theorem Zsh{l:List Value}{pre:List Assn}[b:ZAe l ρ][a:ZAp pre Γ Γ'](k:S n w0 ρ Γ' (ZCd P B [] c)):S n w0 (Nl 0 l) (pre++Γ) (c.wp P B):=by rw[b.h,a.h];exact ZS k
theorem Zbd{f:FuncId}{fn:Func}{l:List Value}{pre:List Assn}{post:List Assn→Value→List Assn→Prop}(d:P.funcs[f]?=some fn)(e:fn.body=some c)(a:fn.ntmps=n)(h:∀(w0:WM md) Γ,S n w0 (Nl 0 l) (pre++Γ) (c.wp P (Fin P fn post Γ w0)))(b:Nat.ble l.length n=true:=by rfl):Spec P f l pre post md:=Spec.Ht d e a b h
theorem Zd0{id:Nat}(is:List Nat)(k:S n w0 ρ Γ (ZDq P B ks l Γ [] l.toArray.size (Array.replicate l.toArray.size false) is))[b:Eo (P.follows .mixedOrders) true](a:Qbc l.toArray [] l.toArray.size (Array.replicate l.toArray.size false) is=true:=by kernel_rfl):S n w0 ρ Γ (ZCd P B ks (.region id l.toArray true)):=Zd Γ [] is k a
end
instance Tryz.z3:Eo (Uq Tryz.prog 3) (some [.int .i64 0]):=⟨by kernel_rfl⟩
instance Tryz.z25:Eo (Uq Tryz.prog 25) (some [.int .i64 0,.int .i64 0,.int .i64 0,.int .i64 0]):=⟨by kernel_rfl⟩
instance Tryz.z35:Eo (Uq Tryz.prog 35) (some [.int .u32 0,.int .u8 0,.int .i64 0,.int .i64 0,.int .u8 0,.int .i64 0]):=⟨by kernel_rfl⟩
instance Tryz.z46:Eo (Uq Tryz.prog 46) (some [.int .u8 0,.int .u8 0,.int .u8 0,.int .u8 0,.int .u8 0,.bool false,.bool false]):=⟨by kernel_rfl⟩
instance Tryz.z55:Eo (Uq Tryz.prog 55) (some [.pointer none,.int .i64 0,.int .i64 0,.int .i64 0,.int .i64 0,.slice none 0 0,.int .u32 0,.int .u32 0,.map none,.map none,.map none,.map none,.slice none 0 0,.map none,.slice none 0 0,.slice none 0 0]):=⟨by kernel_rfl⟩
instance Tryz.z60:Eo (Uq Tryz.prog 60) (some [.int .u32 0,.int .u32 0,.int .i64 0,.slice none 0 0]):=⟨by kernel_rfl⟩
instance Tryz.z66:Eo (Uq Tryz.prog 66) (some [.slice none 0 0]):=⟨by kernel_rfl⟩
instance Tryz.z72:Eo (Uq Tryz.prog 72) (some [.int .u8 0,.int .u8 0,.int .u32 0,.int .u32 0,.int .u32 0,.int .u32 0,.int .u32 0,.int .u32 0,.int .u8 0,.int .i64 0,.int .u32 0,.int .u32 0,.slice none 0 0]):=⟨by kernel_rfl⟩
instance Tryz.z84:Eo (Uq Tryz.prog 84) (some [.int .i64 0,.int .i64 0,.int .i64 0,.int .i64 0,.int .u32 0,.int .u32 0,.map none,.map none,.pointer none,.slice none 0 0,.slice none 0 0,.slice none 0 0,.int .u32 0,.int .i64 0,.slice none 0 0,.int .u32 0,.map none,.bool false]):=⟨by kernel_rfl⟩
instance Tryz.z90:Eo (Uq Tryz.prog 90) (some [.int .u32 0,.int .u8 0,.int .i64 0,.int .i64 0,.int .u8 0,.int .i64 0,.slice none 0 0,.map none,.int .i64 0,.int .u32 0,.pointer none,.bool false,.int .u32 0,.map none,.bool false,.bool false,.map none]):=⟨by kernel_rfl⟩
instance Tryz.z97:Eo (Uq Tryz.prog 97) (some [.int .i64 0,.int .u8 0,.int .u8 0,.int .u32 0,.int .u32 0,.int .u32 0,.int .u32 0,.int .u32 0,.int .u32 0,.int .u8 0,.int .i64 0,.int .u32 0,.int .u32 0,.slice none 0 0]):=⟨by kernel_rfl⟩
instance Tryz.z107:Eo (Uq Tryz.prog 107) (some [.bool false,.map none,.slice none 0 0,.slice none 0 0,.bool false]):=⟨by kernel_rfl⟩
instance Tryz.Q9s:Eo (Uq Tryz.prog 111) (some [.int .u8 0,.bool false,.int .u32 0,.int .u32 0,.int .u32 0]):=⟨by kernel_rfl⟩
instance Tryz.Qjg:Eo (Uq Tryz.prog 121) (some [.int .i64 0,.int .u16 0]):=⟨by kernel_rfl⟩
instance Tryz.z124:Eo (Uq Tryz.prog 124) (some [.int .i64 0,.int .i64 0,.int .u16 0,.map none,.slice none 0 0]):=⟨by kernel_rfl⟩
instance Tryz.z131:Eo (Uq Tryz.prog 131) (some [.int .u32 0,.int .u32 0,.int .i64 0,.slice none 0 0,.map none,.bool false]):=⟨by kernel_rfl⟩
instance Tryz.Q2s:Eo (Uq Tryz.prog 134) (some []):=⟨by kernel_rfl⟩
instance Tryz.z139:Eo (Uq Tryz.prog 139) (some [.int .i64 0,.int .i64 0]):=⟨by kernel_rfl⟩
instance Tryz.z146:Eo (Uq Tryz.prog 146) (some [.int .i64 0,.int .i64 0,.slice none 0 0,.bool false]):=⟨by kernel_rfl⟩
instance Tryz.z152:Eo (Uq Tryz.prog 152) (some [.int .u32 0,.int .u8 0]):=⟨by kernel_rfl⟩
instance Tryz.z154:Eo (Uq Tryz.prog 154) (some [.int .i64 0,.slice none 0 0]):=⟨by kernel_rfl⟩
instance Tryz.Q2r:Eo (Uq Tryz.prog 161) (some [.int .u32 0,.int .i64 0,.int .i64 0]):=⟨by kernel_rfl⟩
instance Tryz.z175:Eo (Uq Tryz.prog 175) (some [.int .u32 0,.int .u32 0]):=⟨by kernel_rfl⟩
instance Tryz.z183:Eo (Uq Tryz.prog 183) (some [.int .u32 0,.int .u8 0,.int .u32 0]):=⟨by kernel_rfl⟩
instance Tryz.Zot:Eo (Uq Tryz.prog 217) (some [.slice none 0 0,.map none]):=⟨by kernel_rfl⟩
instance Tryz.Zos:Eo (Uq Tryz.prog 219) (some [.slice none 0 0,.map none]):=⟨by kernel_rfl⟩
instance Tryz.z232:Eo (Uq Tryz.prog 232) (some [.int .i64 0,.int .i64 0]):=⟨by kernel_rfl⟩
instance Tryz.Zor:Eo (Uq Tryz.prog 270) (some [.int .u64 0]):=⟨by kernel_rfl⟩
instance Tryz.p25:Eo (Ul Tryz.prog 25) (some [(0,1),(1,1),(2,1),(3,1)]):=⟨by kernel_rfl⟩
instance Tryz.p35:Eo (Ul Tryz.prog 35) (some [(0,1),(1,1),(2,1),(3,1),(4,1),(5,1)]):=⟨by kernel_rfl⟩
instance Tryz.p46:Eo (Ul Tryz.prog 46) (some [(0,1),(1,1),(2,1),(3,1),(4,1),(5,1),(6,1)]):=⟨by kernel_rfl⟩
instance Tryz.p55:Eo (Ul Tryz.prog 55) (some [(0,1),(1,4),(5,1),(6,1),(7,1),(8,1),(9,1),(10,1),(11,1),(12,1),(13,1),(14,1),(15,1)]):=⟨by kernel_rfl⟩
instance Tryz.p60:Eo (Ul Tryz.prog 60) (some [(0,1),(1,1),(2,1),(3,1)]):=⟨by kernel_rfl⟩
instance Tryz.p72:Eo (Ul Tryz.prog 72) (some [(0,1),(1,1),(2,1),(3,1),(4,1),(5,1),(6,1),(7,1),(8,1),(9,1),(10,1),(11,1),(12,1)]):=⟨by kernel_rfl⟩
instance Tryz.p84:Eo (Ul Tryz.prog 84) (some [(0,4),(4,1),(5,1),(6,1),(7,1),(8,1),(9,1),(10,1),(11,1),(12,1),(13,1),(14,1),(15,1),(16,1),(17,1)]):=⟨by kernel_rfl⟩
instance Tryz.p90:Eo (Ul Tryz.prog 90) (some [(0,6),(6,1),(7,1),(8,1),(9,1),(10,1),(11,1),(12,1),(13,1),(14,1),(15,1),(16,1)]):=⟨by kernel_rfl⟩
instance Tryz.p97:Eo (Ul Tryz.prog 97) (some [(0,1),(1,13)]):=⟨by kernel_rfl⟩
instance Tryz.Zlg:Eo (Ul Tryz.prog 107) (some [(0,1),(1,1),(2,1),(3,1),(4,1)]):=⟨by kernel_rfl⟩
instance Tryz.Zbr:Eo (Ul Tryz.prog 111) (some [(0,1),(1,1),(2,1),(3,1),(4,1)]):=⟨by kernel_rfl⟩
instance Tryz.Zpa:Eo (Ul Tryz.prog 121) (some [(0,1),(1,1)]):=⟨by kernel_rfl⟩
instance Tryz.Zlf:Eo (Ul Tryz.prog 124) (some [(0,1),(1,1),(2,1),(3,1),(4,1)]):=⟨by kernel_rfl⟩
instance Tryz.Zle:Eo (Ul Tryz.prog 131) (some [(0,4),(4,1),(5,1)]):=⟨by kernel_rfl⟩
instance Tryz.Zld:Eo (Ul Tryz.prog 134) (some []):=⟨by kernel_rfl⟩
instance Tryz.Zo9:Eo (Ul Tryz.prog 139) (some [(0,1),(1,1)]):=⟨by kernel_rfl⟩
instance Tryz.Zo8:Eo (Ul Tryz.prog 146) (some [(0,1),(1,1),(2,1),(3,1)]):=⟨by kernel_rfl⟩
instance Tryz.Zlc:Eo (Ul Tryz.prog 152) (some [(0,1),(1,1)]):=⟨by kernel_rfl⟩
instance Tryz.Zo7:Eo (Ul Tryz.prog 154) (some [(0,1),(1,1)]):=⟨by kernel_rfl⟩
instance Tryz.Zhn:Eo (Ul Tryz.prog 161) (some [(0,1),(1,1),(2,1)]):=⟨by kernel_rfl⟩
instance Tryz.Zo6:Eo (Ul Tryz.prog 183) (some [(0,1),(1,1),(2,1)]):=⟨by kernel_rfl⟩
instance Tryz.Zo5:Eo (Ul Tryz.prog 217) (some [(0,1),(1,1)]):=⟨by kernel_rfl⟩
instance Tryz.Zo4:Eo (Ul Tryz.prog 219) (some [(0,2)]):=⟨by kernel_rfl⟩
instance Tryz.Zo3:Eo (Ul Tryz.prog 232) (some [(0,1),(1,1)]):=⟨by kernel_rfl⟩
instance:Eo (Qn0 Tryz.prog 35 2) (some 2):=⟨by kernel_rfl⟩
instance:Eo (Qn0 Tryz.prog 121 1) (some 1):=⟨by kernel_rfl⟩
instance Tryz.Zcm:Eo (Kt Tryz.prog 5) (some ([.int .u8 0],1,1)):=⟨by kernel_rfl⟩
instance Tryz.Q51:Eo (Kt Tryz.prog 97) (some ([.int .i64 0,.int .u8 0,.int .u8 0,.int .u32 0,.int .u32 0,.int .u32 0,.int .u32 0,.int .u32 0,.int .u32 0,.int .u8 0,.int .i64 0,.int .u32 0,.int .u32 0,.slice none 0 0],14,80)):=⟨by kernel_rfl⟩
instance Tryz.Q57:Eo (Kt Tryz.prog 103) (some ([.pointer none],1,8)):=⟨by kernel_rfl⟩
instance Tryz.Qqz:Eo (Kt Tryz.prog 60) (some ([.int .u32 0,.int .u32 0,.int .i64 0,.slice none 0 0],4,40)):=⟨by kernel_rfl⟩
instance Tryz.H9:Eo (Kt Tryz.prog 31) (some ([.int .u32 0],1,4)):=⟨by kernel_rfl⟩
instance Tryz.Zfa:Eo (Kt Tryz.prog 22) (some ([.slice none 0 0],1,24)):=⟨by kernel_rfl⟩
instance Tryz.N3:Eo (Kt Tryz.prog 3) (some ([.int .i64 0],1,8)):=⟨by kernel_rfl⟩
instance Tryz.Q54:Eo (Kt Tryz.prog 161) (some ([.int .u32 0,.int .i64 0,.int .i64 0],3,24)):=⟨by kernel_rfl⟩
instance Tryz.Qx6:Eo (Kt Tryz.prog 86) (some ([.pointer none],1,8)):=⟨by kernel_rfl⟩
instance Tryz.Jp:Eo (Kt Tryz.prog 72) (some ([.int .u8 0,.int .u8 0,.int .u32 0,.int .u32 0,.int .u32 0,.int .u32 0,.int .u32 0,.int .u32 0,.int .u8 0,.int .i64 0,.int .u32 0,.int .u32 0,.slice none 0 0],13,72)):=⟨by kernel_rfl⟩
instance Tryz.Qnr:Eo (Kt Tryz.prog 119) (some ([.int .u16 0],1,2)):=⟨by kernel_rfl⟩
instance Tryz.Q56:Eo (Kt Tryz.prog 139) (some ([.int .i64 0,.int .i64 0],2,16)):=⟨by kernel_rfl⟩
instance Tryz.Q55:Eo (Kt Tryz.prog 146) (some ([.int .i64 0,.int .i64 0,.slice none 0 0,.bool false],4,48)):=⟨by kernel_rfl⟩
instance Tryz.Ze9:Eo (Kt Tryz.prog 66) (some ([.slice none 0 0],1,24)):=⟨by kernel_rfl⟩
instance Tryz.Qcm:Eo (Kt Tryz.prog 152) (some ([.int .u32 0,.int .u8 0],2,8)):=⟨by kernel_rfl⟩
instance Tryz.Qnq:Eo (Kt Tryz.prog 183) (some ([.int .u32 0,.int .u8 0,.int .u32 0],3,12)):=⟨by kernel_rfl⟩
instance Tryz.Q53:Eo (Kt Tryz.prog 175) (some ([.int .u32 0,.int .u32 0],2,8)):=⟨by kernel_rfl⟩
instance Tryz.Q52:Eo (Kt Tryz.prog 232) (some ([.int .i64 0,.int .i64 0],2,16)):=⟨by kernel_rfl⟩
instance Tryz.Qry:Eo (Q1u Tryz.prog 175) (some (2,1)):=⟨by kernel_rfl⟩
instance Tryz.Znp:Eo (Q1u Tryz.prog 238) (some (32,1)):=⟨by kernel_rfl⟩
instance Tryz.it3:Eo (Qjo Tryz.prog 3) (some .i64):=⟨by kernel_rfl⟩
instance Tryz.it5:Eo (Qjo Tryz.prog 5) (some .u8):=⟨by kernel_rfl⟩
instance Tryz.Zh4:Eo (Qjo Tryz.prog 31) (some .u32):=⟨by kernel_rfl⟩
instance Tryz.Ze8:Eo (Qjo Tryz.prog 215) (some .u64):=⟨by kernel_rfl⟩
instance Tryz.Ze7:Eo (Qjo Tryz.prog 225) (some .u64):=⟨by kernel_rfl⟩
instance Tryz.Zlq:Eo (Qjo Tryz.prog 270) (some .u64):=⟨by kernel_rfl⟩
instance Tryz.zv3:Eo ((Tryz.prog.info? 3).bind (·.zero)) (some (.int .i64 0)):=⟨by kernel_rfl⟩
instance Tryz.zv4:Eo ((Tryz.prog.info? 4).bind (·.zero)) (some (.bool false)):=⟨by kernel_rfl⟩
instance Tryz.Zgl:Eo ((Tryz.prog.info? 35).bind (·.zero)) (some (.agg #[.int .u32 0,.int .u8 0,.int .i64 0,.int .i64 0,.int .u8 0,.int .i64 0])):=⟨by kernel_rfl⟩
instance Tryz.Jv:Eo ((Tryz.prog.info? 86).bind (·.zero)) (some (.pointer none)):=⟨by kernel_rfl⟩
instance Tryz.Qdr:Eo ((Tryz.prog.info? 112).bind (·.zero)) (some (.pointer none)):=⟨by kernel_rfl⟩
instance Tryz.Qj3:Eo ((Tryz.prog.info? 121).bind (·.zero)) (some (.agg #[.int .i64 0,.int .u16 0])):=⟨by kernel_rfl⟩
instance Tryz.Q2q:Eo ((Tryz.prog.info? 134).bind (·.zero)) (some (.agg #[])):=⟨by kernel_rfl⟩
instance Tryz.mixed:Eo (Tryz.prog.follows .mixedOrders) (true):=⟨by kernel_rfl⟩
instance:Eo (Tryz.prog.underlying 4) (some .bool):=⟨Tryz.underlying4⟩
instance:Eo (Tryz.prog.underlying 22) (some (.slice 5)):=⟨Tryz.underlying22⟩
instance:Eo (Tryz.prog.underlying 27) (some (.pointer 84)):=⟨Tryz.underlying27⟩
instance:Eo (Tryz.prog.underlying 37) (some (.slice 97)):=⟨Tryz.underlying37⟩
instance:Eo (Tryz.prog.underlying 41) (some (.slice 46)):=⟨Tryz.underlying41⟩
instance:Eo (Tryz.prog.underlying 42) (some (.pointer 55)):=⟨Tryz.underlying42⟩
instance:Eo (Tryz.prog.underlying 48) (some (.slice 103)):=⟨Tryz.underlying48⟩
instance:Eo (Tryz.prog.underlying 49) (some (.map 31 35)):=⟨Tryz.underlying49⟩
instance:Eo (Tryz.prog.underlying 51) (some (.slice 60)):=⟨Tryz.underlying51⟩
instance:Eo (Tryz.prog.underlying 53) (some (.slice 31)):=⟨Tryz.underlying53⟩
instance:Eo (Tryz.prog.underlying 63) (some (.pointer 124)):=⟨Tryz.underlying63⟩
instance:Eo (Tryz.prog.underlying 66) (some (.slice 3)):=⟨Tryz.underlying66⟩
instance:Eo (Tryz.prog.underlying 81) (some (.map 3 134)):=⟨Tryz.underlying81⟩
instance:Eo (Tryz.prog.underlying 86) (some (.pointer 90)):=⟨Tryz.underlying86⟩
instance:Eo (Tryz.prog.underlying 87) (some (.pointer 131)):=⟨Tryz.underlying87⟩
instance:Eo (Tryz.prog.underlying 88) (some (.map 3 175)):=⟨Tryz.underlying88⟩
instance:Eo (Tryz.prog.underlying 99) (some (.slice 86)):=⟨Tryz.underlying99⟩
instance:Eo (Tryz.prog.underlying 105) (some (.slice 72)):=⟨Tryz.underlying105⟩
instance:Eo (Tryz.prog.underlying 112) (some (.pointer 111)):=⟨Tryz.underlying112⟩
instance:Eo (Tryz.prog.underlying 117) (some (.map 31 121)):=⟨Tryz.underlying117⟩
instance:Eo (Tryz.prog.underlying 122) (some (.slice 119)):=⟨Tryz.underlying122⟩
instance:Eo (Tryz.prog.underlying 136) (some (.slice 139)):=⟨Tryz.underlying136⟩
instance:Eo (Tryz.prog.underlying 140) (some (.slice 146)):=⟨Tryz.underlying140⟩
instance:Eo (Tryz.prog.underlying 143) (some (.slice 66)):=⟨Tryz.underlying143⟩
instance:Eo (Tryz.prog.underlying 150) (some (.slice 152)):=⟨Tryz.underlying150⟩
instance:Eo (Tryz.prog.underlying 179) (some (.pointer 219)):=⟨Tryz.underlying179⟩
instance:Eo (Tryz.prog.underlying 184) (some (.slice 183)):=⟨Tryz.underlying184⟩
instance:Eo (Tryz.prog.underlying 205) (some (.slice 175)):=⟨Tryz.underlying205⟩
instance:Eo (Tryz.prog.underlying 228) (some (.slice 232)):=⟨Tryz.underlying228⟩
abbrev Tryz.lat:List Nat:=[3,4,5,22,27,31,37,44,48,49,50,51,52,53,58,63,66,81,82,86,87,88,103,104,105,117,119,122,184,205,270]
theorem Tryz.aat:(Tryz.lat.all fun t=>Fy Tryz.prog t)=true:=by kernel_rfl
instance {t:Nat}[h:ZTt (Zt1 Tryz.lat t)]:Eo (Fy Tryz.prog t) true:=⟨Qy2 Tryz.aat h.h⟩
abbrev Tryz.len:List Nat:=[9,10,11,12,13,14,15,16,17,18,19,20,21,22,23,24,25,27,28,29,30,31,32,33,34,35,36,37,38,39,40,41,42,43,44,45,46,47,48,49,50,51,52,53,54,55,56,57,58,59,60,61,62,63,64,65,66,67,68,69,70,71,72,73,74,75,76,77,78,79,80,81,82,83,84,85,86,87,88,89,90,91,92,93,94,95,96,97,98,99,100,101,102,103,104,105,106,107,108,109,110,111,112,113,114,115,116,117,118,119,120,121,122,123,124,125,126,127,128,129,130,131,132,133,134,136,137,138,139,140,141,142,143,144,145,146,147,148,149,150,151,152,153,154,155,156,157,158,159,160,161,162,163,164,165,166,167,168,169,170,171,172,173,174,175,176,177,178,179,180,181,182,183,184,185,186,187,188,189,190,191,192,193,194,195,196,197,198,199,200,201,202,203,204,205,206,207,208,209,210,211,212,213,214,215,216,217,218,219,220,221,222,223,224,225,226,227,228,229,230,231,232,233,234,235,236,237,238,239,240,241,242,243,244,245,246,247,248,249,250,267,268,269,270,271,272]
theorem Tryz.aen:(Tryz.len.all fun t=>Jj Tryz.prog t)=true:=by kernel_rfl
instance {t:Nat}[h:ZTt (Zt1 Tryz.len t)]:Eo (Jj Tryz.prog t) true:=⟨Qy2 Tryz.aen h.h⟩
abbrev Tryz.lel:List (Nat×Nat×Nat):=[(22,5,1),(37,97,14),(41,46,7),(48,103,1),(51,60,4),(53,31,1),(58,22,1),(66,3,1),(92,161,3),(99,86,1),(105,72,13),(122,119,1),(136,139,2),(140,146,4),(143,66,1),(150,152,2),(184,183,3),(205,175,2),(228,232,2)]
theorem Tryz.ael:(Tryz.lel.all fun x=>Nw Tryz.prog x.1==some x.2)=true:=by kernel_rfl
instance {t:Nat}{c:Nat×Nat}[h:ZEn (Zt2 Tryz.lel t) c]:Eo (Nw Tryz.prog t) (some c):=⟨by have:=Qfg (p:=fun t c=>Nw Tryz.prog t==some c) Tryz.ael h.h;simpa using this⟩
abbrev Tryz.lag:List (Nat×Nat):=[(25,4),(35,6),(46,7),(60,4),(72,13),(90,17),(97,14),(107,5),(121,2),(124,5),(134,0),(139,2),(146,4),(152,2),(154,2),(161,3),(175,2),(183,3),(232,2)]
theorem Tryz.aag:(Tryz.lag.all fun x=>S5 Tryz.prog x.1==some x.2)=true:=by kernel_rfl
instance {t c:Nat}[h:ZEn (Zt2 Tryz.lag t) c]:Eo (S5 Tryz.prog t) (some c):=⟨by have:=Qfg (p:=fun t c=>S5 Tryz.prog t==some c) Tryz.aag h.h;simpa using this⟩
abbrev Tryz.lfo:List (Nat×List (Nat×Nat)):=[(25,[(0,0),(1,1),(2,2),(3,3)]),(35,[(0,0),(1,1),(2,2),(3,3),(4,4),(5,5)]),(46,[(0,0),(1,1),(2,2),(3,3),(4,4),(5,5),(6,6)]),(55,[(0,0),(1,1),(2,5),(3,6),(4,7),(5,8),(6,9),(7,10),(8,11),(9,12),(10,13),(11,14),(12,15)]),(60,[(0,0),(1,1),(2,2),(3,3)]),(72,[(0,0),(4,4),(5,5),(6,6),(7,7),(8,8),(9,9),(10,10),(11,11),(12,12)]),(84,[(0,0),(1,4),(2,5),(3,6),(4,7),(5,8),(6,9),(7,10),(8,11),(9,12),(10,13),(11,14),(12,15),(13,16),(14,17)]),(90,[(0,0),(1,6),(2,7),(3,8),(4,9),(5,10),(6,11),(7,12),(8,13),(9,14),(10,15),(11,16)]),(97,[(0,0),(1,1)]),(107,[(0,0),(1,1),(2,2),(3,3),(4,4)]),(111,[(0,0),(1,1),(2,2),(3,3),(4,4)]),(121,[(0,0),(1,1)]),(124,[(0,0),(1,1),(2,2),(3,3),(4,4)]),(131,[(0,0),(1,4),(2,5)]),(139,[(0,0),(1,1)]),(146,[(0,0),(1,1),(2,2),(3,3)]),(152,[(0,0),(1,1)]),(154,[(1,1)]),(183,[(0,0),(1,1),(2,2)]),(217,[(0,0),(1,1)]),(219,[(0,0)]),(232,[(0,0),(1,1)])]
theorem Tryz.afo:(Tryz.lfo.all fun x=>x.2.all fun y=>Sz Tryz.prog x.1 y.1==some y.2)=true:=by kernel_rfl
instance {t f c:Nat}{l:List (Nat×Nat)}[h:ZEn (Zt2 Tryz.lfo t) l][g:ZEn (Zt2 l f) c]:Eo (Sz Tryz.prog t f) (some c):=⟨by have:=Qfg (p:=fun f c=>Sz Tryz.prog t f==some c) (Qfg (p:=fun t l=>l.all fun y=>Sz Tryz.prog t y.1==some y.2) Tryz.afo h.h) g.h;simpa using this⟩
theorem Qjz{d:Bool}(s:Bs):Spec Tryz.prog 212 [bsv s] [] (fun a v b=>v=.int .i64 ((lst s).length:Nat)∧b=a) d:=by
 refine Spec.Ht Tryz.func212 rfl Tryz.ntmps212 rfl ?_;intro c a;have g:=Q77 s;have e1:((s >>> 8).toNat:Int)=((s.toNat / 256:Nat):Int):=by rw[Qv7,Qv6]
 have e2:((s &&& 255#16).toNat:Int)=((s.toNat % 256:Nat):Int):=by
  rw[Qv2,show (255#16:Bs).toNat=2 ^ 8-1 from rfl,Nat.and_two_pow_sub_one_eq_mod]
 have f:=Q4q (s.toNat / 256);have e:=Q4q (s.toNat % 256);show S _ c [(0,bsv s)] a _;refine ZS (ZY 5 ?_);refine Zd0 (Zra 0 9) (Zy ?_);refine Zw ef (Q36 (s) (8) rfl rfl rfl (rfl) Qb) ?_;refine Zw ef (Qw4 (s.toNat / 256) Tryz.underlying9 rfl (by kernel_rfl) rfl e1 Qb) (Zy ?_);refine Zw ef (Qb7 (s) (255#16) rfl rfl (rfl) (rfl)) ?_;refine Zw ef (Qw4 (s.toNat % 256) Tryz.underlying9 rfl (by kernel_rfl) rfl e2 Qb) ?_;refine Zw ef (Za ef ef) ?_;refine Zw ef (Vu Tryz.it3.h (by rw[Tryz.underlying5];rfl) rfl (Xy Qb Qb)) (Zy ?_);refine ZD (Zy ?_);exact Zf ef Zq (⟨by simp only[Vt];rw[Zhy];simp,rfl⟩)
theorem Qn4{c:Bool}(s:Bs):Spec Tryz.prog 176 [bsv s] [] (fun a v b=>v=.int .i64 ((lst s).length:Nat)∧b=a) c:=by
 refine Zbd Tryz.func176 rfl Tryz.ntmps176 fun d a=>Zsh (ZY 7 (Zp (Zcp Ze (Qjz s) (ZY 3 ?_))));exact Zf ef Zq (⟨rfl,rfl⟩)
theorem Zdj(s:Bs)(m:Nat):decide (((s >>> m &&& 1#16).toNat:Int)=1)=s.getLsbD m:=by
 have e:((s >>> m &&& 1#16).toNat)=if s.getLsbD m then 1 else 0:=by
  rw[Qv2,Qv7,show (1#16:Bs).toNat=1 from rfl,Nat.and_one_is_mod,BitVec.getLsbD,Nat.testBit,Nat.one_and_eq_mod_two,Qv6];rcases Nat.mod_two_eq_zero_or_one (s.toNat / 2 ^ m) with h|h <;> simp[h]
 rw[e];cases s.getLsbD m <;> rfl
theorem Qrd{c:Bool}(s:Bs)(m:Nat)(z:Int)(d:z=(m:Int))(e:m≤16):Spec Tryz.prog 106 [bsv s,.int .i64 z] [] (fun a v b=>v=.bool (s.getLsbD m)∧b=a) c:=by
 subst d;refine Zbd Tryz.func106 rfl Tryz.ntmps106 fun f a=>Zsh (ZY 8 (Zv (Q36 (s) (m) rfl rfl rfl (rfl) (e)) (Zv (Qb7 (s >>> m) (1#16) rfl rfl (rfl) (rfl)) (ZY 4 ?_))));exact Zf ef Zq (⟨by simp only[Vt];rw[Zdj],rfl⟩)
def dbi(t:Nat):Nat:=(2 ^ t*125613361) % 4294967296 / 134217728
theorem Zd2:((List.range 16).all fun t=>Nat.blt (dbi t) 32&&decide (Qyn.getD (dbi t) 0=(t:Int)))=true:=by kernel_rfl
theorem Q9v(z:Int):IntKind.u32.wrap z=z % 4294967296:=by
 have e:(2:Int) ^ 32=4294967296:=Qp
 unfold IntKind.wrap;show (if (false&&decide _)=true then _ else z % ((2:Int) ^ 32))=_;rw[e,Qou,Qe Qp]
theorem Zjk{t:Nat}(h:t<16):∃i:Nat,i<32∧Qyn.getD i 0=(t:Int)∧IntKind.u32.wrap ((2:Int) ^ t*125613361) / 2 ^ 27=((i:Nat):Int):=by
 have a:=Kn.1 Zd2 t (C3.2 h);rw[Z5,Zz]at a;refine⟨dbi t,by have:=a.1;simp[Nat.blt]at this;omega,a.2,?_⟩;have e:(2:Int) ^ t*125613361=((2 ^ t*125613361:Nat):Int):=by rw[Int.natCast_mul,Int.natCast_pow];rfl
 rw[Q9v,e];unfold dbi;generalize 2 ^ t*125613361=z
 omega
theorem Qs0{h:Bool}(s:Bs){W:World}(m:Dx W):Spec Tryz.prog 129 [bsv s] [Wo W] (fun a v f=>v=.int .i64 (tz s:Nat)∧f=Wo W::a) h:=by
 refine Spec.Ht Tryz.func129 rfl Tryz.ntmps129 rfl ?_;intro g a;have o:=Q77 (s &&& -s);show S _ g [(0,bsv s)] (Wo W::a) _;refine ZS (ZY 8 (ZY 2 ?_))
 refine Zj ef (fun b=>?_) (fun b=>?_)
 ·have n:s=0#16:=Ej.1 b;refine ZY 5 ?_;exact Zf ef Zq (⟨by simp only[Vt];rw[n,Q94];rfl,rfl⟩)
 ·have h0:s≠0#16:=fun e=>b (Ej.2 e);have d:tz s<16:=M8 (Gj h0);obtain⟨i,k1,k,j⟩:=Zjk d
  have l:((s &&& -s).toNat:Int)=2 ^ tz s:=by
   rw[Qxy s h0,BitVec.toNat_twoPow,Qbh (Nat.pow_lt_pow_right Qb d)]
   norm_cast
  have c:=m i k1;rw[k]at c;refine ZY 5 (Zv (Zha (s) rfl rfl) (Zv (Qb7 (s) (-s) rfl rfl (rfl) (rfl)) ?_));refine Zv (Vu Tryz.Zh4.h (by rw[Tryz.underlying118];rfl) rfl (Qx7 Qb Qb)) (Zv (Zhb rfl rfl) ?_);refine Zv (Zbg 27 ((i:Nat):Int) rfl rfl rfl Qp (by rw[l];exact j)) ?_;refine Zv (Ln Tryz.Znp.h rfl rfl (⟨Qb,Qb⟩)) ?_;refine Zv (Bk Eo.h rfl (show W.cell? ⟨0,0+i*1,none⟩=_ by rw[Qj2,Kz];exact c)) ?_;refine Zv (Vu Tryz.it3.h (by rw[Tryz.underlying5];rfl) rfl (Xy Qb Qb)) (ZY 3 ?_);exact Zf ef Zq (⟨rfl,rfl⟩)
def Qno:Op→Bool
 | .defer _=>true
 | _=>false
theorem Qkq{op:Op}(h:Qno op=false):∀c,op≠.defer c:=fun c e=>by rw[e]at h;cases h
theorem Za2{P:Program}{m:Nat}{b:Option Nat}{row:String}{args:Array Value}{w:World}{R:Value→World→Prop}(h:Rows P row args w R):RowsIn {Fence.wide with round:=b} m P row args w R:=
 fun c d _=>let ⟨v,a,r,s⟩:=h c d;⟨v,a,r,(stepsIn_wide.2 s:StepsIn (Machine.fenced P Fence.wide) P _ _)⟩
theorem Qxi{P:Program}{m:Nat}{ro:Option Nat}{o:Oper}{a:Act}{w:World}{next:Act→World→Prop}{Q:Exit→Act→World→Prop}(b:Qno o.op=false)
  (h:o.wp P a w next Q):o.wpIn {Fence.wide with round:=ro} m P a w next Q:=by
 unfold Oper.wpIn;refine⟨fun _ _=>trivial,?_⟩;rw[Oper.semAt_plain _ _ _ (Qkq b)];unfold Oper.wp at h;cases d:(execOp a.eval o).run P w with
 | ok nx c=>
  rw[d]at h;cases nx with
  | enter f args=>exact⟨fun b=>by simp[Fence.wide]at b,(callsIn_wide.2 h:CallsIn Fence.wide (m-1) P f args c _)⟩
  | row row args=>exact⟨fun b=>by simp[Fence.wide]at b,Za2 h⟩
  | round=>exact h.elim
  | _=>exact h
 | halt x c=>rw[d]at h;cases x <;> exact h
def Ql0(F:Fence)(m:Nat)(P:Program)(Q:Exit→Act→World→Prop):List Oper→Act→World→Prop
 | [],a,w=>Q .normal a w
 | o::rest,a,w=>o.wpIn F m P a w (Ql0 F m P Q rest) Q
theorem Oper.Qsx{F:Fence}{m:Nat}{P:Program}{o:Oper}{a:Act}{w:World}{k j:Act→World→Prop}{Q:Exit→Act→World→Prop}(c:∀a w,k a w→j a w)(h:o.wpIn F m P a w k Q):o.wpIn F m P a w j Q:=by
 obtain⟨u,b⟩:=h;refine⟨u,?_⟩;cases n:(o.semAt F.round a.eval).run P w with
 | ok nx q=>
  rw[n]at b;cases nx with
  | value v=>exact c _ _ b
  | skip=>exact c _ _ b
  | defer d=>exact c _ _ b
  | enter f args=>
   refine⟨b.1,b.2.1,fun z t=>?_⟩;obtain⟨e,g,y,r,s,x⟩:=b.2.2 z t;refine⟨e,g,y,?_,s,x⟩;cases e <;> first|exact c _ _ r|exact r
  | row row args=>exact⟨b.1,b.2.mono fun v g r=>c _ _ r⟩
  | round l f i assign p=>
   refine⟨b.1,b.2.mono fun e g r=>?_⟩;cases e <;> first|exact c _ _ r|exact r
  | _=>exact b
 | halt x q=>rw[n]at b;cases x <;> exact b
theorem Qfh{F:Fence}{m:Nat}{P:Program}{Q:Exit→Act→World→Prop}{b:Array Oper}:∀(l:List Oper),(l.all fun o=>o.guard.isNone)=true→∀a w,Ql0 F m P Q l a w→wpListIn F m P b Q l a w:=by
 intro l;induction l with
 | nil=>intro _ a w h;exact h
 | cons o l d=>
  intro c a w h;simp only[Qy8,Z5,Qef]at c;unfold wpListIn;rw[Qh (by simp[Region.wanted,c.1])];exact Oper.Qsx (d c.2) h
def J1(l:Nat)(r:Loop):Assn:=fun h=>h l=some (.loop r)
def Cr(D:Nat):Assn:=fun h=>h D=some (.deferred (some []))
theorem Sat.Sl{w:World}{l:Nat}{r:Loop}{Γ:List Assn}(h:Sat w (J1 l r::Γ)):w.heap[l]?=some (.loop r):=by
 obtain⟨x,le,p⟩:=h.head;exact le l _ p
theorem Sat.Zls{w:World}{D:Nat}{Γ:List Assn}(h:Sat w (Cr D::Γ)):w.heap[D]?=some (.deferred (some [])):=by
 obtain⟨x,le,p⟩:=h.head;exact le D _ p
theorem Sat.Pv{w:World}{l:Nat}{r:Loop}{Γ:List Assn}(h:Sat w (J1 l r::Γ))(a:Loop):Sat (w.putObj l (.loop a)) (J1 l a::Γ):=
 Sat.setObj h (.loop a) (fun _ p=>⟨_,p⟩) (HL.Vf _ _)
theorem Sat.newObj{w:World}{Γ:List Assn}(h:Sat w Γ)(o:Obj)(A:Nat→Assn)(d:∀b,A b (HL.one b o)):Sat (w.alloc o) (A w.heap.size::Γ):=by
 have h0:Sat w ((fun _=>True:Assn)::Γ):=by
  obtain⟨y,l,s⟩:=h;exact⟨y,l,HL.emp,y,HL.J2 _,HL.Hm _,HL.le.refl _,trivial,s⟩
 refine h0.upd fun y _ _=>⟨HL.one w.heap.size o,HL.one_le (Qco rfl),d _,fun c _ a=>?_⟩
 have e:c<w.heap.size:=by
  rcases Nz c w.heap.size with h|h
  ·exact h
  ·simp[Array.getElem?_eq_none h]at a
 exact⟨HL.Kr Qb,Below.heap_alloc _ _ _ e⟩
def Qvh{a:Type}(P:Program)(d:FuncId)(f g:List Value)(c:a→Value)(G:List a→a→Prop)(E:List a→Prop)(pre:List Assn):Prop:=
 ∀(l:Nat) (w0:WM false) (J:List a→List Assn),
  (∀(done:List a) (x:a) (Γ:List Assn) (w:World),G done x→Sat w (J done++Γ)→Ext w0 w→YieldAt Fence.wide 0 P l #[c x] w fun e b=>e=.returned (.bool true)∧Sat b (J (done++[x])++Γ)∧Ext w0 b) →
  ∀(Γ:List Assn) (w:World),Sat w (pre++(J []++Γ))→Ext w0 w →
   CallsIn Fence.wide 0 P d (f.toArray++#[.func (.yield l) #[] #[]]++g.toArray) w fun e b=>(∃v,e=.returned v)∧∃xs,E xs∧Sat b (pre++(J xs++Γ))∧Ext w0 b
theorem Zg8{d:Type}{P:Program}{g:Operand}{p:Tmp}{assign body:Code}{Q:Exit→Act→World→Prop}{a:Act}{w:World}{w0:WM false}{q:FuncId}{H J:List Value}{j:d→Value}{G:List d→d→Prop}{E:List d→Prop}{pre:List Assn}
  (hg:a.eval g=.func (.func q) H.toArray J.toArray) (z:Jj P q=true) (Y:Qvh P q H J j G E pre) (I:List d→List Assn) {Γ:List Assn} (hs:Sat w (pre++(I []++Γ))) (hx:Ext w0 w)
  (m:d→Act) (i:∀(l:Nat) (x:d) (W:World) (K:Act→World→Prop),K (m x) W→assign.wpIn (Fence.wide.inRound l) 0 P (Exit.then K (fun _ _ _=>False)) {tmps:=a.tmps.setIfInBounds p (j x),defers:=[]} W)
  (Z:∀(l:Nat) (done:List d) (x:d) (k:List Assn) (W:World),G done x→Sat W (I done++k)→Ext w0 W →
   body.wpIn (Fence.wide.inRound l) 0 P (fun e _ W'=>e=.normal∧Sat W' (I (done++[x])++k)∧Ext w0 W') (m x) W)
  (L3:∀(D:Nat) (xs:List d) (W:World),E xs→Sat W (Cr D::(pre++(I xs++Γ)))→Ext w0 W→Q .normal {a with defers:={target:=.collected D,args:=#[]}::a.defers} W) :
  (Code.rangeFunc g #[p] assign body).wpIn Fence.wide 0 P Q a w:=by
 refine wpIn_rangeFunc fun fn _=>?_;obtain⟨rec,r⟩:∃rec:LoopState→Loop,rec=fun st=>{state:=st,pending:=none,fn,tmps:=a.tmps,params:=#[p],assign,body,defers:=w.heap.size}:=⟨_,rfl⟩;obtain⟨n,o⟩:∃n,(w.alloc (.deferred (some []))).alloc (.loop (rec .ready))=n:=⟨_,rfl⟩
 have N7:Sat n (J1 (w.heap.size+1) (rec .ready)::Cr w.heap.size::(pre++(I []++Γ))):=by
  have V:=hs.newObj (.deferred (some [])) Cr fun b=>HL.Vf _ _;have C:=V.newObj (.loop (rec .ready)) (fun b=>J1 b (rec .ready)) fun b=>HL.Vf _ _;rw[World.size_alloc,o]at C;exact C
 have Y3:Ext w0 n:=by rw[←o];exact(hx.alloc _).alloc _
 refine⟨w.heap.size+1,[{target:=.collected w.heap.size,args:=#[]}],n,{target:=.fn (.func q) J.toArray,args:=H.toArray++#[.func (.yield (w.heap.size+1)) #[] #[]]},n,q,
  H.toArray++#[.func (.yield (w.heap.size+1)) #[] #[]]++J.toArray,n,?_,?_,fun _ _=>trivial,?_,fun h=>by simp[Fence.wide]at h,?_⟩
 ·rw[←o,r];exact run_enterLoop_outer _ _ _ _ _
 ·simp only[resolve,hg];simp[go_sem]
 ·have S:∀args w,(callFunc q args).run P w=.ok (.enter q args) w:=fun args w=>by
   unfold Jj at z
   split at z
   ·rename_i f hf;simp only[Z5,Qbi,Mj]at z;obtain⟨V,C⟩:=z;have U:¬f.body=none:=by cases hb:f.body <;> simp[hb]at C ⊢
    simp[callFunc,hf,V,U]
   ·cases z
  simp[invoke,go_sem,S]
 ·have y:∀(st:LoopState) (done:List d),Ent (J1 (w.heap.size+1) (rec st)::Cr w.heap.size::(pre++(I done++Γ))) (pre++((J1 (w.heap.size+1) (rec st)::I done)++(Cr w.heap.size::Γ))):=fun st done=>
   ((Ent.cons _ (Ent.cons _ (Ent.pack pre _))).trans ((Ent.cons _ (Ent.swap _ _ _)).trans (Ent.swap _ _ _))).trans ((Ent.cons (stars pre) ((Ent.cons _ ((Ent.cons _ (Ent.pack (I done) Γ)).trans ((Ent.swap _ _ _).trans (Ent.unpack (I done) _)))))).trans (Ent.unpack pre _))
  have a0:∀(st:LoopState) (done:List d),Ent (pre++((J1 (w.heap.size+1) (rec st)::I done)++(Cr w.heap.size::Γ))) (J1 (w.heap.size+1) (rec st)::Cr w.heap.size::(pre++(I done++Γ))):=fun st done=>
   (Ent.pack pre _).trans ((Ent.cons _ (Ent.cons _ ((Ent.pack (I done) _).trans ((Ent.swap _ _ _).trans (Ent.cons _ (Ent.unpack (I done) Γ)))))).trans ((Ent.swap _ _ _).trans (Ent.cons _ ((Ent.swap _ _ _).trans (Ent.cons _ (Ent.unpack pre _))))))
  have a1:=Y (w.heap.size+1) w0 (fun done=>J1 (w.heap.size+1) (rec .ready)::I done) ?_ (Cr w.heap.size::Γ) n (N7.Qs (y _ _)) Y3
  ·obtain⟨a2,T⟩:=a1;refine⟨trivial,fun fr hr=>?_⟩;obtain⟨e,w',f',⟨⟨v,rfl⟩,xs,hE,O,M⟩,st,rest⟩:=T fr hr;refine⟨_,w',f',?_,st,rest⟩;have Da:=O.Qs (a0 _ _);have Bt:=Da.Sl;have c:=run_endLoop (P:=P) Bt (by rw[r];simp);have hp:(rec .ready).pending=none:=by rw[r]
   obtain⟨X,A⟩:∃X,X=w'.putObj (w.heap.size+1) (.loop {rec .ready with state:=.exhausted}):=⟨_,rfl⟩;rw[←A,hp]at c;refine⟨none,X,c,?_⟩;rw[A]
   refine L3 w.heap.size xs _ hE ?_ ?_
   ·have:=Da.Pv ({rec .ready with state:=.exhausted});exact(this.Qs (Ent.drop _ _))
   ·exact M.setObj _ _
  ·intro done x k W N4 B u;have hl:=(show Sat W (J1 (w.heap.size+1) (rec .ready)::(I done++k)) from B).Sl
   have hy:(Instr.yield (w.heap.size+1) #[j x]).run P W=.ok (.round (w.heap.size+1) fn (a.tmps.setIfInBounds p (j x)) assign body) W:=by
    have:=run_yield (P:=P) (args:=#[j x]) hl (by rw[r];rfl);rw[r]at this
    simpa using this
   refine⟨fn,_,assign,body,hy,roundIn_of_wpIn (F:=Fence.wide) trivial ?_⟩;have N:=(show Sat W (J1 (w.heap.size+1) (rec .ready)::(I done++k)) from B).Pv {rec .ready with state:=.busy};refine i (w.heap.size+1) x W _ ?_;refine⟨_,run_beginRound hl (by rw[r]),?_⟩;have s:Sat (W.putObj (w.heap.size+1) (.loop {rec .ready with state:=.busy})) (I done++(J1 (w.heap.size+1) {rec .ready with state:=.busy}::k)):=N.Qs (((Ent.cons _ (Ent.pack (I done) k)).trans (Ent.swap _ _ _)).trans (Ent.unpack (I done) _));refine wpIn_mono (Z (w.heap.size+1) done x _ _ N4 s (u.setObj _ _)) ?_;rintro e a3 W3 ⟨rfl,J8,L⟩;have t:Sat W3 (J1 (w.heap.size+1) {rec .ready with state:=.busy}::(I (done++[x])++k)):=J8.Qs ((Ent.pack (I (done++[x])) _).trans ((Ent.swap _ _ _).trans (Ent.cons _ (Ent.unpack (I (done++[x])) k))));have R:=t.Sl;have c:=run_endRound (P:=P) none R;refine⟨_,_,c,rfl,?_,L.setObj _ _⟩;have:=t.Pv ({rec .ready with state:=.ready});rw[r]at this ⊢;exact this
section
variable {P:Program}{n:Nat}{md:Bool}{w0:WM md}{ρ:Env}{Γ:List Assn}{Q:Exit→Act→World→Prop}{K:Act→World→Prop}{ty:TypeId}{pos:String}{af:Array Edge}{gd:Option (Nat×Bool)}{d:Nat}{ds:Option Tmp}
theorem S.T3{ro:Option Nat}{id:Nat}{l:List Oper}(d:(l.all fun o=>o.guard.isNone)=true)(h:S n w0 ρ Γ (Ql0 {Fence.wide with round:=ro} 0 P Q l)):S n w0 ρ Γ ((Code.region id l.toArray false).wpIn {Fence.wide with round:=ro} 0 P Q):=
 fun a w e c b=>wpIn_region_lit (Qfh l d a w (h a w e c b))
theorem S.Qms{id:Nat}{l:List Oper}(d:(l.all fun o=>o.guard.isNone)=true)(h:S n w0 ρ Γ (Ql0 {Fence.wide with round:=none} 0 P Q l)):S n w0 ρ Γ ((Code.region id l.toArray false).wp P Q):=
 fun a w e c b=>wpIn_wide.1 (S.T3 (ro:=none) d h a w e c b:(Code.region id l.toArray false).wpIn Fence.wide 0 P Q a w)
theorem S.opI{b:Option Nat}{o:Oper}{rest:List Oper}(e:Qno o.op=false)(h:S n w0 ρ Γ (Ow P Q o (Ql0 {Fence.wide with round:=b} 0 P Q rest))):S n w0 ρ Γ (Ql0 {Fence.wide with round:=b} 0 P Q (o::rest)):=
 fun a w f d c=>Qxi e (h a w f d c)
theorem S.Qtr{F:Fence}(h:S n w0 ρ Γ (Q .normal)):S n w0 ρ Γ (Ql0 F 0 P Q []):=h
theorem S.Qsu{x y:Operand}{g:Array TypeId}{l:Nat}{u:Value}{rest:List Oper}{f:List Assn}{w0:WM false}(s:ev ρ x=some (.func (.yield l) #[] #[]))(r:ev ρ y=some u)
  (A:∀w,Sat w Γ→Ext w0 w→YieldAt Fence.wide 0 P l #[u] w fun e i=>e=.returned (.bool true)∧Sat i f∧Ext w0 i) (z:Nat.blt d n=true)
  (k:S n w0 ((d,.bool true)::ρ) f (Ql0 {Fence.wide with round:=none} 0 P Q rest)):S n w0 ρ Γ (Ql0 {Fence.wide with round:=none} 0 P Q (⟨some d,.call {callee:=.value x,args:=#[y],argTypes:=g},ty,pos,af,gd⟩::rest)):=by
 intro a w q t o;obtain⟨fn,b,assign,c,j,B⟩:=A w t o;refine⟨fun _ _=>trivial,?_⟩;rw[Oper.semAt_plain _ _ _ (Qkq rfl)]
 have v:(execOp a.eval ⟨some d,.call {callee:=.value x,args:=#[y],argTypes:=g},ty,pos,af,gd⟩).run P w=.ok (.round l fn b assign c) w:=by
  simp[execOp,resolve,q.ev s,q.ev r,Deferred.ofValue,invoke,j]
 rw[v];refine⟨fun h=>by simp[Fence.wide]at h,?_⟩;refine RoundIn.mono (show RoundIn Fence.wide 0 P l fn b assign c w _ from B) ?_;rintro e i ⟨rfl,p,m⟩;exact k _ _ (q.put z _) p m
theorem S3{f:FuncId}{fn:Func}{c:Code}{l:List Value}{R:Ending→World→Prop}(j:P.funcs[f]?=some fn)(k:fn.body=some c)(g:fn.ntmps=n)(i:Nat.ble l.length n=true)
  (h:S n w0 (Nl 0 l) Γ (c.wp P (bodyPost P fn R))) {w:World} (e:Sat w Γ) (b:Ext w0 w):Calls P f l.toArray w R:=by
 refine calls_of_wp j k (h _ w ⟨?_,rfl,fun t v d=>?_⟩ e b)
 ·have:=Qbj i;simp[g];omega
 ·obtain⟨_,a⟩:=S4 l 0 t v d;simp only[Qza]at a;have m:t<l.length:=(Yz.1 a).1;have:=(Yz.1 a).2;simp[Array.getElem?_append_left,m,this]
theorem S.Zjh{fn:Func}{R:Ending→World→Prop}(d:fn.results=#[])(h:∀v w,Sat w Γ→Ext w0 w→R (.returned v) w):S n w0 ρ Γ (bodyPost P fn R .normal):=by
 intro a w e c b;exact⟨e.defers,_,results_none d _ _ _,h _ w c b⟩
def Ai(ds:List Deferred)(b:Act→World→Prop):Act→World→Prop:=fun a w=>b {a with defers:=ds} w
theorem S.Qmt{id:Nat}{l:List Oper}{b:List Deferred}(e:(l.all fun o=>o.guard.isNone)=true)(h:S n w0 ρ Γ (Ai b (wpL P Q l))):S n w0 ρ Γ (Ai b ((Code.region id l.toArray false).wp P Q)):=
 fun a w f d c=>wp_region_lit (Qj4 l e _ w (h a w f d c))
theorem S.qD{o:Oper}{v:Value}{rest:List Oper}{b:List Deferred}(h:Qv P n ρ Γ o v)(j:o.dst=some d)(i:Nat.blt d n=true)(k:S n w0 ((d,v)::ρ) Γ (Ai b (wpL P Q rest))):S n w0 ρ Γ (Ai b (wpL P Q (o::rest))):=by
 intro a w e c f;show o.wp P {a with defers:=b} w _ _;have g:(execOp ({a with defers:=b}:Act).eval o).run P w=.ok (.value v) w:=h a w e c;unfold Oper.wp;rw[g,Oper.upon_value,j];exact k _ _ (e.put i v) c f
theorem S.Zhp{a:List Deferred}(h:S n w0 ρ Γ (Ai a (Q .normal))):S n w0 ρ Γ (Ai a (wpL P Q [])):=h
theorem S.Zgx{x y:Code}{b:List Deferred}(h:S n w0 ρ Γ (Ai b (x.wp P (Exit.then (y.wp P Q) Q)))):S n w0 ρ Γ (Ai b ((Code.seq x y).wp P Q)):=fun a w e d c=>wp_seq (h a w e d c)
theorem S.seq1{x y:Code}(h:S n w0 ρ Γ (x.wp P (Exit.then (y.wp P Q) Q))):S n w0 ρ Γ ((Code.seq x y).wp P Q):=fun a w d c b=>wp_seq (h a w d c b)
theorem S.Zg4{b:List Deferred}(h:S n w0 ρ Γ (Ai b (Q .ret))):S n w0 ρ Γ (Ai b (Code.ret.wp P Q)):=fun a w e d c=>wp_ret (h a w e d c)
def Zj7(P:Program)(fn:Func)(post:List Assn→Value→List Assn→Prop)(Γ:List Assn)(w0:WM false):Exit→Act→World→Prop:=
 bodyPostM Fence.wide 0 P fn fun e b=>∃v a,e=.returned v∧post Γ v a∧Sat b a∧Ext w0 b
theorem Spec.Qg9{f:FuncId}{fn:Func}{c:Code}{l:List Value}{pre:List Assn}{post:List Assn→Value→List Assn→Prop}(i:P.funcs[f]?=some fn)(j:fn.body=some c)(e:fn.ntmps=n)(g:Nat.ble l.length n=true)
  (h:∀(w0:WM false) Γ,S n w0 (Nl 0 l) (pre++Γ) (c.wp P (Zj7 P fn post Γ w0))):Spec P f l pre post:=by
 intro Γ w d
 have k:c.wp P (Zj7 P fn post Γ ⟨w⟩) {tmps:=l.toArray++Array.replicate (fn.ntmps-l.toArray.size) undef,defers:=[]} w:=by
  refine h ⟨w⟩ Γ _ w ⟨?_,rfl,fun t v b=>?_⟩ d (Ext.refl _)
  ·have:=Qbj g;simp[e];omega
  ·obtain⟨_,a⟩:=S4 l 0 t v b;simp only[Qza]at a;have m:t<l.length:=(Yz.1 a).1;have:=(Yz.1 a).2;simp[Array.getElem?_append_left,m,this]
 exact callsIn_wide.1 (callsIn_of_wp_marks (F:=Fence.wide) (n:=0) i j trivial (wpIn_wide.2 k) rfl)
theorem S.Zji{fn:Func}{post:List Assn→Value→List Assn→Prop}{b Θ:List Assn}{rs:List ResultVar}{vs:List Value}{D:Nat}{w0:WM false}(g:fn.results=rs.toArray)(j:Qbf P ρ Θ rs vs)(i:post b (Vt vs) Θ)(l:Ent Γ (Cr D::Θ)) :
  S n w0 ρ Γ (Ai [{target:=.collected D,args:=#[]}] (Zj7 P fn post b w0 .ret)):=by
 intro a w m f e;have c:=f.Qs l;have k:=c.Zls;refine⟨Q2,.inl ⟨D,_,rfl,run_takeDeferred k,?_⟩⟩
 have d:Sat (w.putObj D (.deferred none)) Θ:=by
  have:Sat (w.putObj D (.deferred none)) ((fun h=>h D=some (.deferred none))::Θ):=Sat.setObj c (.deferred none) (fun _ p=>⟨_,p⟩) (HL.Vf _ _);exact this.Qs (Ent.drop _ _)
 exact⟨_,(Li g j m d:(results fn a.tmps).run P _=_),_,Θ,rfl,i,d,e.setObj _ _⟩
theorem S.Q31{c:Type}{g:Operand}{p q:Nat}{id:Nat}{b:Code}{w0:WM false}{r:FuncId}{fs cs:List Value}{enc:c→Value}{G:List c→c→Prop}{E:List c→Prop}{pre Γ':List Assn}{k:TypeId}{s1:String}{h:Array Edge}
  (H:ev ρ g=some (.func (.func r) fs.toArray cs.toArray)) (J:Jj P r=true) (s:Qvh P r fs cs enc G E pre) (I:List c→List Assn) (M:Ent Γ (pre++(I []++Γ'))) (u:Nat.blt p n=true) (F:Nat.blt q n=true)
  (t:∀(l:Nat) (done:List c) (x:c) (j:List Assn),G done x →
   S n w0 ((q,enc x)::(p,enc x)::ρ) (I done++j) (b.wpIn {Fence.wide with round:=some l} 0 P fun e _ y=>e=.normal∧Sat y (I (done++[x])++j)∧Ext w0 y))
  (R:∀D xs,E xs→S n w0 ρ (Cr D::(pre++(I xs++Γ'))) (Ai [{target:=.collected D,args:=#[]}] (Q .normal))) :
  S n w0 ρ Γ ((Code.rangeFunc g #[p] (.region id #[⟨some q,.assign (.tmp p),k,s1,h,none⟩] false) b).wp P Q):=by
 intro a w i B z
 refine(wpIn_wide (n:=0)).1 (Zg8 (i.ev H) J s I (B.Qs M) z (fun x=>{tmps:=(a.tmps.setIfInBounds p (enc x)).setIfInBounds q (enc x),defers:=[]}) ?_ ?_ ?_)
 ·intro l x W K L;have m:p<a.tmps.size:=by rw[i.size];have:=u;simp[Nat.blt]at this;omega
  refine wpIn_region_lit (l:=[⟨some q,.assign (.tmp p),k,s1,h,none⟩]) (Qfh _ rfl _ _ (Qxi (ro:=some l) rfl ?_));unfold Oper.wp;have A:({tmps:=a.tmps.setIfInBounds p (enc x),defers:=[]}:Act).eval (.tmp p)=enc x:=by simp[Act.eval,m]
  have C:(execOp ({tmps:=a.tmps.setIfInBounds p (enc x),defers:=[]}:Act).eval ⟨some q,.assign (.tmp p),k,s1,h,none⟩).run P W=.ok (.value (enc x)) W:=by
   simp only[execOp,A,Sem.run_pure]
  rw[C,Oper.upon_value];exact L
 ·intro l done x j W O f d
  have o:Jt n ((q,enc x)::(p,enc x)::ρ) {tmps:=(a.tmps.setIfInBounds p (enc x)).setIfInBounds q (enc x),defers:=[]}:=by
   have v:=(i.put u (enc x)).put F (enc x);exact⟨v.size,rfl,v.get⟩
  exact t l done x j O _ W o f d
 ·intro D xs W N f d;have:=R D xs N a W i f d;rw[i.defers];exact this
theorem S.Qu5{F:Fence}{id:Nat}{c:Code}(h:S n w0 ρ Γ (c.wpIn F 0 P (Exit.inBlock id Q))):S n w0 ρ Γ ((Code.block id c).wpIn F 0 P Q):=fun a w e d b=>wpIn_block (h a w e d b)
theorem S.Zjj{a:List Assn}(e:Ent Γ a):S n w0 ρ Γ (fun _ b=>Exit.normal=Exit.normal∧Sat b a∧Ext w0 b):=fun _ _ _ d c=>⟨rfl,d.Qs e,c⟩
def N0(b:Nat)(T E:TypeId)(done:List Value):Assn:=fun h=>∃sv:SV,sv.n=done.length∧stars [blk b T #[sv.v],own sv E 1 done] h
theorem Ent.N0{b:Nat}{T E:TypeId}{done:List Value}(sv:SV)(a:sv.n=done.length)(Γ:List Assn):Ent (blk b T #[sv.v]::own sv E 1 done::Γ) (N0 b T E done::Γ):=
 (Ent.pack [blk b T #[sv.v],own sv E 1 done] Γ).trans (Ent.Kg Γ fun _ p=>⟨sv,a,p⟩)
theorem S.N0{e:Act→World→Prop}{b:Nat}{T E:TypeId}{done:List Value}{c:List Assn}[p:Pick (N0 b T E done) Γ c](k:∀sv:SV,sv.n=done.length→S n w0 ρ (blk b T #[sv.v]::own sv E 1 done::c) e):S n w0 ρ Γ e:=by
 intro a w m i h;obtain⟨h0,l,r,o,d,g,f,⟨sv,j,q⟩,s⟩:=i.Qs p.Qs;exact k sv j a w m ⟨h0,l,(Ent.unpack [blk b T #[sv.v],own sv E 1 done] c) _ ⟨r,o,d,g,f,q,s⟩⟩ h
end
abbrev nv(i:Nat):Value:=.int .i64 (i:Int)
theorem Q7p(s:Bs){W:World}(F:Dx W):Qvh Tryz.prog 103 [bsv s] [] nv (fun done x=>∃rest,lst s=done++x::rest) (fun xs=>xs=lst s) [Wo W]:=by
 intro l w0 J E Γ w f d;refine callsIn_wide.2 (S3 (n:=15) (l:=[bsv s,.func (.yield l) #[] #[]]) (Γ:=stars (J [])::Wo W::Γ) (w0:=w0) Tryz.func103 rfl Tryz.ntmps103 rfl ?_ (f.Qs ((Ent.cons _ (Ent.pack (J []) Γ)).trans (Ent.swap _ _ _))) d);show S _ w0 [(0,bsv s),(1,.func (.yield l) #[] #[])] (stars (J [])::Wo W::Γ) _;refine S.block ?_;refine S.loop (fun m c Γ'=>∃(j:Nat) (u:Bs) (L:List Nat),L=(lst s).take j∧lst u=(lst s).drop j∧j≤(lst s).length∧m=(lst u).length∧c=[(0,bsv u),(1,.func (.yield l) #[] #[])]∧Γ'=stars (J L)::Wo W::Γ) (m:=_) (ρ0:=_) (Γ0:=_) (⟨0,s,[],rfl,Q2,Qb,rfl,rfl,rfl⟩) (by repeat (first|exact trivial|refine⟨rfl,?_⟩)) Sub.Qs ?_;rintro m c Γ' ⟨j,u,L,i,o,M,D,rfl,rfl⟩;refine S.seq fun R B=>?_;refine S.seq fun Q A=>(S.region rfl (S.op (S.q (Y8 rfl) rfl rfl (S.op (S.q (Zk4 rfl rfl) rfl rfl ?_)))));first|with_reducible refine S.Lq ?_|refine S.nil ?_
 refine A _ _ ?_
 refine S.Zgb rfl (fun C=>?_) (fun C=>?_)
 ·have h0:u≠0#16:=fun e=>C (Ej.2 e)
  obtain⟨t,r,b⟩:∃t r,lst u=t::r:=by
   cases e:lst u with
   | nil=>exact absurd (Qnf.1 e) h0
   | cons t r=>exact⟨t,r,rfl⟩
  have a:(lst s).drop j=t::r:=o.symm.trans b;have H:lst s=L++t::r:=by rw[i,←a,Qlr]
  refine S.skip ?_
  with_reducible repeat (first|refine S.Kx ?_|refine S.Kw ?_|refine S.then_r ?_|refine S.We ?_|refine S.inBlock_r ?_|refine S.inBlock_x rfl ?_|refine S.noGoto_r ?_|refine S.noGoto_n ?_|refine S.noGoto_x ?_)
  refine B _ _ ?_;refine S.seq fun P z=>(S.block ?_);refine S.seq fun O y=>(S.Qms rfl (S.opI rfl ?_));refine  (S.q (Y8 rfl) rfl rfl (S.opI rfl ?_));refine  (S.q (Y8 rfl) rfl rfl (S.opI rfl ?_));refine  (S.call Eo.h (vs:=[_]) ⟨rfl,trivial⟩ (Qs0 u F) rfl ?_);rintro v K ⟨rfl,rfl⟩;refine S.Qsu rfl rfl (fun w f d=>by rw[Tl b];exact E _ t (Wo W::Γ) w ⟨r,H⟩ (f.Qs ((Ent.swap _ _ _).trans (Ent.unpack _ _))) d) rfl (S.Qs (Ent.pack _ _) (S.opI rfl ?_));refine  (S.q (Qw6 rfl) rfl rfl (S.Qtr ?_));refine y _ _ (S.Qec rfl (S.skip ?_))
  with_reducible repeat (first|refine S.Kx ?_|refine S.Kw ?_|refine S.then_r ?_|refine S.We ?_|refine S.inBlock_r ?_|refine S.inBlock_x rfl ?_|refine S.noGoto_r ?_|refine S.noGoto_n ?_|refine S.noGoto_x ?_)
  with_reducible repeat (first|refine S.Kx ?_|refine S.Kw ?_|refine S.then_r ?_|refine S.We ?_|refine S.inBlock_r ?_|refine S.inBlock_x rfl ?_|refine S.noGoto_r ?_|refine S.noGoto_n ?_|refine S.noGoto_x ?_)
  refine z _ _ (S.region rfl (S.op (S.q (Y8 rfl) rfl rfl (S.op (S.q (Y8 rfl) rfl rfl (S.op (S.q (Qw3 (u) rfl rfl rfl) rfl rfl (S.op (S.q (Qb7 (u) (u-1#16) rfl rfl (rfl) (rfl)) rfl rfl (S.op (S.q (G9 rfl) rfl rfl ?_)))))))))));first|with_reducible refine S.Lq ?_|refine S.nil ?_
  with_reducible repeat (first|refine S.Kx ?_|refine S.Kw ?_|refine S.then_r ?_|refine S.We ?_|refine S.inBlock_r ?_|refine S.inBlock_x rfl ?_|refine S.noGoto_r ?_|refine S.noGoto_n ?_|refine S.noGoto_x ?_)
  have N:0<(lst u).length:=by rw[b];simp
  have k:lst (u &&& (u-1#16))=(lst s).drop (j+1):=by rw[Qrz u h0,Qam b,←List.tail_drop,a];rfl
  have q:j+1≤(lst s).length:=by have:=Z3 List.length a;rw[R4,Ka]at this;omega
  have p:m-1=(lst (u &&& (u-1#16))).length:=by rw[D,Qrz u h0,Qam b,b];simp
  have I:L++[t]=(lst s).take (j+1):=by rw[List.take_add,a,i];rfl
  exact S.next (m-1) (⟨j+1,u &&& (u-1#16),L++[t],I,k,q,p,rfl,rfl⟩) Qb (by repeat (first|exact trivial|refine⟨rfl,?_⟩)) Sub.Qs
 ·have G:u=0#16:=Ej.1 (W7 C);rw[G,Ay]at o;have g:=List.drop_eq_nil_iff.1 o.symm;have h:(lst s).take j=lst s:=Dh g;rw[h]at i;subst i;refine S.exit ?_
  with_reducible repeat (first|refine S.Kx ?_|refine S.Kw ?_|refine S.then_r ?_|refine S.We ?_|refine S.inBlock_r ?_|refine S.inBlock_x rfl ?_|refine S.noGoto_r ?_|refine S.noGoto_n ?_|refine S.noGoto_x ?_)
  with_reducible refine S.Qcn ?_
  with_reducible repeat (first|refine S.Kx ?_|refine S.Kw ?_|refine S.then_r ?_|refine S.We ?_|refine S.inBlock_r ?_|refine S.inBlock_x rfl ?_|refine S.noGoto_r ?_|refine S.noGoto_n ?_|refine S.noGoto_x ?_)
  with_reducible repeat (first|refine S.Kx ?_|refine S.Kw ?_|refine S.then_r ?_|refine S.We ?_|refine S.inBlock_r ?_|refine S.inBlock_x rfl ?_|refine S.noGoto_r ?_|refine S.noGoto_n ?_|refine S.noGoto_x ?_)
  refine S.Zjh rfl ?_;exact fun v w f d=>⟨⟨v,rfl⟩,_,rfl,f.Qs ((Ent.swap _ _ _).trans (Ent.cons _ (Ent.unpack _ _))),d⟩
abbrev nds(l:List Nat):List Value:=l.map nv
theorem Q5o(s:Bs){W:World}(n:Dx W):Spec Tryz.prog 64 [bsv s] [Wo W] fun a v Θ=>∃sv:SV,v=sv.v∧sv.n=(lst s).length∧Θ=own sv 3 1 (nds (lst s))::Wo W::a:=by
 refine Spec.Qg9 Tryz.func64 rfl Tryz.ntmps64 rfl ?_;intro g a;show S _ g [(0,bsv s)] (Wo W::a) _;refine S.seq fun w j=>(S.region rfl (S.op (S.q (G9 rfl) rfl rfl (S.Lq ?_))));refine j _ _ ?_;refine S.seq fun u i=>(S.region rfl (S.op (S.alloc Tryz.z66.h rfl ?_)));intro c;refine S.Lq ?_;refine i _ _ (S.seq1 ?_);refine S.seq fun t h=>(S.region rfl (S.op (S.q (Y8 rfl) rfl rfl ?_)));refine S.op (S.q (Qgs (vs:=[_]) (us:=[]) ⟨rfl,trivial⟩ trivial) rfl rfl (S.Lq ?_));refine h _ _ (S.block ?_);have d:=Qng s
 refine S.Q31 (fs:=[bsv s]) (cs:=[]) (enc:=nv) (p:=7) (q:=4) rfl Eo.h (Q7p s n) (fun done=>[N0 c 66 3 (nds done)]) (Γ':=a) ?_ rfl rfl ?_ ?_
 ·exact(Ent.swap _ _ _).trans (Ent.cons _ ((Ent.cons _ (Ent.Xb 3 1)).trans (Ent.N0 SV.nil rfl _)))
 ·rintro l done x Θ ⟨rest,o⟩;have m:done.length<16:=by rw[o]at d;simp at d;omega
  show S _ g _ (N0 c 66 3 (nds done)::Θ) _;refine S.N0 (b:=c) (T:=66) (E:=3) (done:=nds done) fun sv f=>?_;simp only[Qo]at f;refine S.Qu5 (S.T3 rfl (S.opI rfl ?_));refine(S.q (Gl Eo.h rfl rfl) rfl rfl (S.opI rfl ?_));refine(S.q (Y8 rfl) rfl rfl (S.opI rfl ?_));refine(S.buildSlice (pvs:=[(_,_)]) [_] Tryz.underlying66 Tryz.N3.h rfl rfl ⟨⟨rfl,rfl⟩,trivial⟩ rfl rfl ?_);intro k;refine S.opI rfl ?_;refine(S.Z6 (s:=sv) 1 [nv x] Tryz.underlying66 Tryz.N3.h rfl rfl rfl (Yb (b:=k) rfl (show 1≤maxLen by unfold maxLen;omega)) rfl ⟨Qb,Qb⟩ rfl ?_);intro s2 r;refine S.opI rfl ?_;refine(S.store (cs':=[_]) Eo.h rfl rfl rfl rfl rfl (S.Qtr (S.Zjj ?_)));have e:nds done++[nv x]=nds (done++[x]):=Q2
  rw[e];exact(Sub.Qs (Δ:=blk c 66 #[s2.v]::own s2 3 1 (nds (done++[x]))::Θ)).trans (Ent.N0 s2 (by simp[r,f]) Θ)
 ·rintro D _ rfl;show S _ g _ (Cr D::Wo W::N0 c 66 3 (nds (lst s))::a) _;refine S.N0 (b:=c) (T:=66) (E:=3) (done:=nds (lst s)) fun sv f=>?_;simp only[Qo]at f;refine S.Zgx (S.Qmt rfl (S.qD (Gl Eo.h rfl rfl) rfl rfl (S.qD (G9 rfl) rfl rfl (S.Zhp (S.Zg4 ?_)))));exact S.Zji (rs:=[_]) (vs:=[_]) Tryz.results64 ⟨rfl,trivial⟩ (Θ:=own sv 3 1 (nds (lst s))::Wo W::a) ⟨sv,rfl,f,rfl⟩ Sub.Qs
end Go.Proofs.YtdackcibfkkniaaGreatDoor
