/- Texts put together. -/
import Derived.RangeFuncIn
import Derived.RangeFuncRecord
import Derived.RangeFuncLeaves
import Derived.RangeFuncSeq
import Derived.OwnWalkIn
import Derived.Shelf.SlSortCmp.NoneTotal
import Derived.Shelf.SlGeneric
import Derived.Ground.SlsfProg
import Derived.Shelf.Sort.Plain
import Derived.Shelf.Slices.In.SortNone
import Derived.Shelf.Bits.Mul64
import Derived.Test.YtdackcibfkkniaaGreatDoorMC1
set_option synthInstance.maxSize 9999
set_option synthInstance.maxHeartbeats 400000
set_option maxRecDepth 20000
namespace Go.Proofs.YtdackcibfkkniaaGreatDoor
open Go.RowKit
def Qgd:Op→Bool
 | .defer _=>true
 | _=>false
theorem Qdz{op:Op}(h:Qgd op=false):∀c,op≠.defer c:=fun c e=>by rw[e]at h;cases h
theorem Q0n{P:Program}{m:Nat}{ro:Option Nat}{row:String}{args:Array Value}{w:World}{R:Value→World→Prop}(h:Rows P row args w R):RowsIn {Fence.wide with round:=ro} m P row args w R:=
 fun c cs _=>let ⟨v,w',r,s⟩:=h c cs;⟨v,w',r,(stepsIn_wide.2 s:StepsIn (Machine.fenced P Fence.wide) P _ _)⟩
theorem Qon{P:Program}{m:Nat}{ro:Option Nat}{o:Oper}{a:Act}{w:World}{next:Act→World→Prop}{Q:Exit→Act→World→Prop}(hd:Qgd o.op=false)
  (h:o.wp P a w next Q):o.wpIn {Fence.wide with round:=ro} m P a w next Q:=by
 unfold Oper.wpIn;refine⟨fun _ _=>trivial,?_⟩;rw[Oper.semAt_plain _ _ _ (Qdz hd)];unfold Oper.wp at h;cases hr:(execOp a.eval o).run P w with
 | ok nx w'=>
  rw[hr]at h;cases nx with
  | enter f args=>exact⟨fun hd=>by simp[Fence.wide]at hd,(callsIn_wide.2 h:CallsIn Fence.wide (m-1) P f args w' _)⟩
  | row row args=>exact⟨fun hd=>by simp[Fence.wide]at hd,Q0n h⟩
  | round=>exact h.elim
  | _=>exact h
 | halt x w'=>rw[hr]at h;cases x <;> exact h
def Qe0(F:Fence)(m:Nat)(P:Program)(Q:Exit→Act→World→Prop):List Oper→Act→World→Prop
 | [],a,w=>Q .normal a w
 | o::rest,a,w=>o.wpIn F m P a w (Qe0 F m P Q rest) Q
theorem Oper.Qk1{F:Fence}{m:Nat}{P:Program}{o:Oper}{a:Act}{w:World}{k k':Act→World→Prop}{Q:Exit→Act→World→Prop}(hk:∀a w,k a w→k' a w)(h:o.wpIn F m P a w k Q):o.wpIn F m P a w k' Q:=by
 obtain⟨h1,h2⟩:=h;refine⟨h1,?_⟩;cases hr:(o.semAt F.round a.eval).run P w with
 | ok nx w'=>
  rw[hr]at h2;cases nx with
  | value v=>exact hk _ _ h2
  | skip=>exact hk _ _ h2
  | defer d=>exact hk _ _ h2
  | enter f args=>
   refine⟨h2.1,h2.2.1,fun cs hc=>?_⟩;obtain⟨e,w2,fr,r,s,x⟩:=h2.2.2 cs hc;refine⟨e,w2,fr,?_,s,x⟩;cases e <;> first|exact hk _ _ r|exact r
  | row row args=>exact⟨h2.1,h2.2.mono fun v w2 r=>hk _ _ r⟩
  | round l f tmps assign body=>
   refine⟨h2.1,h2.2.mono fun e w2 r=>?_⟩;cases e <;> first|exact hk _ _ r|exact r
  | _=>exact h2
 | halt x w'=>rw[hr]at h2;cases x <;> exact h2
theorem Tl{F:Fence}{m:Nat}{P:Program}{Q:Exit→Act→World→Prop}{ops:Array Oper}:∀(l:List Oper),(l.all fun o=>o.guard.isNone)=true→∀a w,Qe0 F m P Q l a w→wpListIn F m P ops Q l a w:=by
 intro l;induction l with
 | nil=>intro _ a w h;exact h
 | cons o l ih=>
  intro hg a w h;simp only[List.all_cons,Bool.and_eq_true,Option.isNone_iff_eq_none]at hg;unfold wpListIn;rw[if_pos (by simp[Region.wanted,hg.1])];exact Oper.Qk1 (ih hg.2) h
def Ui(l:Nat)(r:Loop):Assn:=fun h=>h l=some (.loop r)
def Gu(D:Nat):Assn:=fun h=>h D=some (.deferred (some []))
theorem Sat.A9{w:World}{l:Nat}{r:Loop}{Γ:List Assn}(h:Sat w (Ui l r::Γ)):w.heap[l]?=some (.loop r):=by
 obtain⟨x,le,p⟩:=h.head;exact le l _ p
theorem Sat.Za4{w:World}{D:Nat}{Γ:List Assn}(h:Sat w (Gu D::Γ)):w.heap[D]?=some (.deferred (some [])):=by
 obtain⟨x,le,p⟩:=h.head;exact le D _ p
theorem Sat.Bn{w:World}{l:Nat}{r:Loop}{Γ:List Assn}(h:Sat w (Ui l r::Γ))(r':Loop):Sat (w.putObj l (.loop r')) (Ui l r'::Γ):=
 Sat.setObj h (.loop r') (fun _ p=>⟨_,p⟩) (HL.Xt _ _)
theorem Sat.newObj{w:World}{Γ:List Assn}(h:Sat w Γ)(o:Obj)(A:Nat→Assn)(hA:∀b,A b (HL.one b o)):Sat (w.alloc o) (A w.heap.size::Γ):=by
 have h0:Sat w ((fun _=>True:Assn)::Γ):=by
  obtain⟨y,l,s⟩:=h;exact⟨y,l,HL.emp,y,HL.Ul _,HL.U6 _,HL.le.refl _,trivial,s⟩
 refine h0.upd fun y _ _=>⟨HL.one w.heap.size o,HL.one_le (Pt rfl),hA _,fun c _ hc=>?_⟩
 have Wq:c<w.heap.size:=by
  rcases Nat.lt_or_ge c w.heap.size with h|h
  ·exact h
  ·simp[Array.getElem?_eq_none h]at hc
 exact⟨HL.Vj (by omega),Below.heap_alloc _ _ _ Wq⟩
def Qne{α:Type}(P:Program)(gf:FuncId)(fs cs:List Value)(enc:α→Value)(G:List α→α→Prop)(E:List α→Prop)(pre:List Assn):Prop:=
 ∀(l:Nat) (w0:WM false) (J:List α→List Assn),
  (∀(done:List α) (x:α) (Γ:List Assn) (w:World),G done x→Sat w (J done++Γ)→Ext w0 w→YieldAt Fence.wide 0 P l #[enc x] w fun e w'=>e=.returned (.bool true)∧Sat w' (J (done++[x])++Γ)∧Ext w0 w') →
  ∀(Γ:List Assn) (w:World),Sat w (pre++(J []++Γ))→Ext w0 w →
   CallsIn Fence.wide 0 P gf (fs.toArray++#[.func (.yield l) #[] #[]]++cs.toArray) w fun e w'=>(∃v,e=.returned v)∧∃xs,E xs∧Sat w' (pre++(J xs++Γ))∧Ext w0 w'
theorem Q6l{α:Type}{P:Program}{g:Operand}{p:Tmp}{assign body:Code}{Q:Exit→Act→World→Prop}{a:Act}{w:World}{w0:WM false}{gf:FuncId}{fs cs:List Value}{enc:α→Value}{G:List α→α→Prop}{E:List α→Prop}{pre:List Assn}
  (hg:a.eval g=.func (.func gf) fs.toArray cs.toArray) (he:V5 P gf=true) (Ql3:Qne P gf fs cs enc G E pre) (I:List α→List Assn) {Γ:List Assn} (hs:Sat w (pre++(I []++Γ))) (hx:Ext w0 w)
  (a₁:α→Act) (hassign:∀(l:Nat) (x:α) (W:World) (K:Act→World→Prop),K (a₁ x) W→assign.wpIn (Fence.wide.inRound l) 0 P (Exit.then K (fun _ _ _=>False)) {tmps:=a.tmps.setIfInBounds p (enc x),defers:=[]} W)
  (Qby:∀(l:Nat) (done:List α) (x:α) (Θ:List Assn) (W:World),G done x→Sat W (I done++Θ)→Ext w0 W →
   body.wpIn (Fence.wide.inRound l) 0 P (fun e _ W'=>e=.normal∧Sat W' (I (done++[x])++Θ)∧Ext w0 W') (a₁ x) W)
  (Cz:∀(D:Nat) (xs:List α) (W:World),E xs→Sat W (Gu D::(pre++(I xs++Γ)))→Ext w0 W→Q .normal {a with defers:={target:=.collected D,args:=#[]}::a.defers} W) :
  (Code.rangeFunc g #[p] assign body).wpIn Fence.wide 0 P Q a w:=by
 refine wpIn_rangeFunc fun fn _=>?_;obtain⟨rec,Mb⟩:∃rec:LoopState→Loop,rec=fun st=>{state:=st,pending:=none,fn,tmps:=a.tmps,params:=#[p],assign,body,defers:=w.heap.size}:=⟨_,rfl⟩;obtain⟨W1,hW1⟩:∃W1,(w.alloc (.deferred (some []))).alloc (.loop (rec .ready))=W1:=⟨_,rfl⟩
 have D9:Sat W1 (Ui (w.heap.size+1) (rec .ready)::Gu w.heap.size::(pre++(I []++Γ))):=by
  have h1:=hs.newObj (.deferred (some [])) Gu fun b=>HL.Xt _ _;have h2:=h1.newObj (.loop (rec .ready)) (fun b=>Ui b (rec .ready)) fun b=>HL.Xt _ _;rw[World.size_alloc,hW1]at h2;exact h2
 have Z4:Ext w0 W1:=by rw[←hW1];exact(hx.alloc _).alloc _
 refine⟨w.heap.size+1,[{target:=.collected w.heap.size,args:=#[]}],W1,{target:=.fn (.func gf) cs.toArray,args:=fs.toArray++#[.func (.yield (w.heap.size+1)) #[] #[]]},W1,gf,
  fs.toArray++#[.func (.yield (w.heap.size+1)) #[] #[]]++cs.toArray,W1,?_,?_,fun _ _=>trivial,?_,fun h=>by simp[Fence.wide]at h,?_⟩
 ·rw[←hW1,Mb];exact run_enterLoop_outer _ _ _ _ _
 ·simp only[resolve,hg];simp[go_sem]
 ·have hcf:∀args w,(callFunc gf args).run P w=.ok (.enter gf args) w:=fun args w=>by
   unfold V5 at he
   split at he
   ·rename_i f hf;simp only[Bool.and_eq_true,bne_iff_ne,ne_eq]at he;obtain⟨h1,h2⟩:=he;have h2':¬f.body=none:=by cases hb:f.body <;> simp[hb]at h2 ⊢
    simp[callFunc,hf,h1,h2']
   ·cases he
  simp[invoke,go_sem,hcf]
 ·have hent:∀(st:LoopState) (done:List α),Ent (Ui (w.heap.size+1) (rec st)::Gu w.heap.size::(pre++(I done++Γ))) (pre++((Ui (w.heap.size+1) (rec st)::I done)++(Gu w.heap.size::Γ))):=fun st done=>
   ((Ent.cons _ (Ent.cons _ (Ent.pack pre _))).trans ((Ent.cons _ (Ent.swap _ _ _)).trans (Ent.swap _ _ _))).trans ((Ent.cons (stars pre) ((Ent.cons _ ((Ent.cons _ (Ent.pack (I done) Γ)).trans ((Ent.swap _ _ _).trans (Ent.unpack (I done) _)))))).trans (Ent.unpack pre _))
  have Qxk:∀(st:LoopState) (done:List α),Ent (pre++((Ui (w.heap.size+1) (rec st)::I done)++(Gu w.heap.size::Γ))) (Ui (w.heap.size+1) (rec st)::Gu w.heap.size::(pre++(I done++Γ))):=fun st done=>
   (Ent.pack pre _).trans ((Ent.cons _ (Ent.cons _ ((Ent.pack (I done) _).trans ((Ent.swap _ _ _).trans (Ent.cons _ (Ent.unpack (I done) Γ)))))).trans ((Ent.swap _ _ _).trans (Ent.cons _ ((Ent.swap _ _ _).trans (Ent.cons _ (Ent.unpack pre _))))))
  have Qxj:=Ql3 (w.heap.size+1) w0 (fun done=>Ui (w.heap.size+1) (rec .ready)::I done) ?_ (Gu w.heap.size::Γ) W1 (D9.Qh (hent _ _)) Z4
  ·obtain⟨hc1,hc2⟩:=Qxj;refine⟨trivial,fun fr hr=>?_⟩;obtain⟨e,w',f',⟨⟨v,rfl⟩,xs,hE,hs',hx'⟩,st,rest⟩:=hc2 fr hr;refine⟨_,w',f',?_,st,rest⟩;have Jz:=hs'.Qh (Qxk _ _);have Gq:=Jz.A9;have hend:=run_endLoop (P:=P) Gq (by rw[Mb];simp);have hp:(rec .ready).pending=none:=by rw[Mb]
   obtain⟨W2,hW2⟩:∃W2,W2=w'.putObj (w.heap.size+1) (.loop {rec .ready with state:=.exhausted}):=⟨_,rfl⟩;rw[←hW2,hp]at hend;refine⟨none,W2,hend,?_⟩;rw[hW2]
   refine Cz w.heap.size xs _ hE ?_ ?_
   ·have:=Jz.Bn ({rec .ready with state:=.exhausted});exact(this.Qh (Ent.drop _ _))
   ·exact hx'.setObj _ _
  ·intro done x Θ W D3 Lc hext;have hl:=(show Sat W (Ui (w.heap.size+1) (rec .ready)::(I done++Θ)) from Lc).A9
   have hy:(Instr.yield (w.heap.size+1) #[enc x]).run P W=.ok (.round (w.heap.size+1) fn (a.tmps.setIfInBounds p (enc x)) assign body) W:=by
    have:=run_yield (P:=P) (args:=#[enc x]) hl (by rw[Mb];rfl);rw[Mb]at this
    simpa using this
   refine⟨fn,_,assign,body,hy,roundIn_of_wpIn (F:=Fence.wide) trivial ?_⟩;have hsB:=(show Sat W (Ui (w.heap.size+1) (rec .ready)::(I done++Θ)) from Lc).Bn {rec .ready with state:=.busy};refine hassign (w.heap.size+1) x W _ ?_;refine⟨_,run_beginRound hl (by rw[Mb]),?_⟩;have hsB':Sat (W.putObj (w.heap.size+1) (.loop {rec .ready with state:=.busy})) (I done++(Ui (w.heap.size+1) {rec .ready with state:=.busy}::Θ)):=hsB.Qh (((Ent.cons _ (Ent.pack (I done) Θ)).trans (Ent.swap _ _ _)).trans (Ent.unpack (I done) _));refine wpIn_mono (Qby (w.heap.size+1) done x _ _ D3 hsB' (hext.setObj _ _)) ?_;rintro e a3 W3 ⟨rfl,Uq,hx3⟩;have Pw:Sat W3 (Ui (w.heap.size+1) {rec .ready with state:=.busy}::(I (done++[x])++Θ)):=Uq.Qh ((Ent.pack (I (done++[x])) _).trans ((Ent.swap _ _ _).trans (Ent.cons _ (Ent.unpack (I (done++[x])) Θ))));have Si:=Pw.A9;have hend:=run_endRound (P:=P) none Si;refine⟨_,_,hend,rfl,?_,hx3.setObj _ _⟩;have:=Pw.Bn ({rec .ready with state:=.ready});rw[Mb]at this ⊢;exact this
section
variable {P:Program}{n:Nat}{md:Bool}{w0:WM md}{ρ:Env}{Γ:List Assn}{Q:Exit→Act→World→Prop}{K:Act→World→Prop}{ty:TypeId}{pos:String}{af:Array Edge}{gd:Option (Nat×Bool)}{d:Nat}{ds:Option Tmp}
theorem S.Ni{ro:Option Nat}{id:Nat}{l:List Oper}(hg:(l.all fun o=>o.guard.isNone)=true)(h:S n w0 ρ Γ (Qe0 {Fence.wide with round:=ro} 0 P Q l)):S n w0 ρ Γ ((Code.region id l.toArray false).wpIn {Fence.wide with round:=ro} 0 P Q):=
 fun a w ha hs hx=>wpIn_region_lit (Tl l hg a w (h a w ha hs hx))
theorem S.Qfm{id:Nat}{l:List Oper}(hg:(l.all fun o=>o.guard.isNone)=true)(h:S n w0 ρ Γ (Qe0 {Fence.wide with round:=none} 0 P Q l)):S n w0 ρ Γ ((Code.region id l.toArray false).wp P Q):=
 fun a w ha hs hx=>wpIn_wide.1 (S.Ni (ro:=none) hg h a w ha hs hx:(Code.region id l.toArray false).wpIn Fence.wide 0 P Q a w)
theorem S.opI{ro:Option Nat}{o:Oper}{rest:List Oper}(hd:Qgd o.op=false)(h:S n w0 ρ Γ (Ow P Q o (Qe0 {Fence.wide with round:=ro} 0 P Q rest))):S n w0 ρ Γ (Qe0 {Fence.wide with round:=ro} 0 P Q (o::rest)):=
 fun a w ha hs hx=>Qon hd (h a w ha hs hx)
theorem S.Qlr{F:Fence}(h:S n w0 ρ Γ (Q .normal)):S n w0 ρ Γ (Qe0 F 0 P Q []):=h
theorem S.Qky{x y:Operand}{ats:Array TypeId}{l:Nat}{u:Value}{rest:List Oper}{Γ':List Assn}{w0:WM false}(hx:ev ρ x=some (.func (.yield l) #[] #[]))(hy:ev ρ y=some u)
  (hY:∀w,Sat w Γ→Ext w0 w→YieldAt Fence.wide 0 P l #[u] w fun e w'=>e=.returned (.bool true)∧Sat w' Γ'∧Ext w0 w') (hn:Nat.blt d n=true)
  (k:S n w0 ((d,.bool true)::ρ) Γ' (Qe0 {Fence.wide with round:=none} 0 P Q rest)):S n w0 ρ Γ (Qe0 {Fence.wide with round:=none} 0 P Q (⟨some d,.call {callee:=.value x,args:=#[y],argTypes:=ats},ty,pos,af,gd⟩::rest)):=by
 intro a w ha hs hx';obtain⟨fn,tmps,assign,body,Ru,hR⟩:=hY w hs hx';refine⟨fun _ _=>trivial,?_⟩;rw[Oper.semAt_plain _ _ _ (Qdz rfl)]
 have hr:(execOp a.eval ⟨some d,.call {callee:=.value x,args:=#[y],argTypes:=ats},ty,pos,af,gd⟩).run P w=.ok (.round l fn tmps assign body) w:=by
  simp[execOp,resolve,ha.ev hx,ha.ev hy,Deferred.ofValue,invoke,Ru]
 rw[hr];refine⟨fun h=>by simp[Fence.wide]at h,?_⟩;refine RoundIn.mono (show RoundIn Fence.wide 0 P l fn tmps assign body w _ from hR) ?_;rintro e w' ⟨rfl,hs',hx2⟩;exact k _ _ (ha.put hn _) hs' hx2
theorem Mn{f:FuncId}{fn:Func}{c:Code}{l:List Value}{R:Ending→World→Prop}(hf:P.funcs[f]?=some fn)(hb:fn.body=some c)(hn:fn.ntmps=n)(hl:Nat.ble l.length n=true)
  (h:S n w0 (Dt 0 l) Γ (c.wp P (bodyPost P fn R))) {w:World} (hs:Sat w Γ) (hx:Ext w0 w):Calls P f l.toArray w R:=by
 refine calls_of_wp hf hb (h _ w ⟨?_,rfl,fun t v hv=>?_⟩ hs hx)
 ·have:=Nat.le_of_ble_eq_true hl;simp[hn];omega
 ·obtain⟨_,h2⟩:=Mo l 0 t v hv;simp only[Nat.sub_zero]at h2;have Wq:t<l.length:=(List.getElem?_eq_some_iff.1 h2).1;have:=(List.getElem?_eq_some_iff.1 h2).2;simp[Array.getElem?_append_left,Wq,this]
theorem S.Q8l{fn:Func}{R:Ending→World→Prop}(hr:fn.results=#[])(h:∀v w,Sat w Γ→Ext w0 w→R (.returned v) w):S n w0 ρ Γ (bodyPost P fn R .normal):=by
 intro a w ha hs hx;exact⟨ha.defers,_,results_none hr _ _ _,h _ w hs hx⟩
def F0(ds:List Deferred)(φ:Act→World→Prop):Act→World→Prop:=fun a w=>φ {a with defers:=ds} w
theorem S.Qfn{id:Nat}{l:List Oper}{df:List Deferred}(hg:(l.all fun o=>o.guard.isNone)=true)(h:S n w0 ρ Γ (F0 df (wpL P Q l))):S n w0 ρ Γ (F0 df ((Code.region id l.toArray false).wp P Q)):=
 fun a w ha hs hx=>wp_region_lit (Qc9 l hg _ w (h a w ha hs hx))
theorem S.qD{o:Oper}{v:Value}{rest:List Oper}{df:List Deferred}(h:Qv P n ρ Γ o v)(hd:o.dst=some d)(hn:Nat.blt d n=true)(k:S n w0 ((d,v)::ρ) Γ (F0 df (wpL P Q rest))):S n w0 ρ Γ (F0 df (wpL P Q (o::rest))):=by
 intro a w ha hs hx;show o.wp P {a with defers:=df} w _ _;have hr:(execOp ({a with defers:=df}:Act).eval o).run P w=.ok (.value v) w:=h a w ha hs;unfold Oper.wp;rw[hr,Oper.upon_value,hd];exact k _ _ (ha.put hn v) hs hx
theorem S.Q60{df:List Deferred}(h:S n w0 ρ Γ (F0 df (Q .normal))):S n w0 ρ Γ (F0 df (wpL P Q [])):=h
theorem S.Q59{x y:Code}{df:List Deferred}(h:S n w0 ρ Γ (F0 df (x.wp P (Exit.then (y.wp P Q) Q)))):S n w0 ρ Γ (F0 df ((Code.seq x y).wp P Q)):=fun a w ha hs hx=>wp_seq (h a w ha hs hx)
theorem S.seq1{x y:Code}(h:S n w0 ρ Γ (x.wp P (Exit.then (y.wp P Q) Q))):S n w0 ρ Γ ((Code.seq x y).wp P Q):=fun a w ha hs hx=>wp_seq (h a w ha hs hx)
theorem S.Q6h{df:List Deferred}(h:S n w0 ρ Γ (F0 df (Q .ret))):S n w0 ρ Γ (F0 df (Code.ret.wp P Q)):=fun a w ha hs hx=>wp_ret (h a w ha hs hx)
def Q9j(P:Program)(fn:Func)(post:List Assn→Value→List Assn→Prop)(Γ:List Assn)(w0:WM false):Exit→Act→World→Prop:=
 bodyPostM Fence.wide 0 P fn fun e w'=>∃v Θ,e=.returned v∧post Γ v Θ∧Sat w' Θ∧Ext w0 w'
theorem Spec.Qa6{f:FuncId}{fn:Func}{c:Code}{l:List Value}{pre:List Assn}{post:List Assn→Value→List Assn→Prop}(hf:P.funcs[f]?=some fn)(hb:fn.body=some c)(hn:fn.ntmps=n)(hl:Nat.ble l.length n=true)
  (h:∀(w0:WM false) Γ,S n w0 (Dt 0 l) (pre++Γ) (c.wp P (Q9j P fn post Γ w0))):Spec P f l pre post:=by
 intro Γ w hs
 have h1:c.wp P (Q9j P fn post Γ ⟨w⟩) {tmps:=l.toArray++Array.replicate (fn.ntmps-l.toArray.size) undef,defers:=[]} w:=by
  refine h ⟨w⟩ Γ _ w ⟨?_,rfl,fun t v hv=>?_⟩ hs (Ext.refl _)
  ·have:=Nat.le_of_ble_eq_true hl;simp[hn];omega
  ·obtain⟨_,h2⟩:=Mo l 0 t v hv;simp only[Nat.sub_zero]at h2;have Wq:t<l.length:=(List.getElem?_eq_some_iff.1 h2).1;have:=(List.getElem?_eq_some_iff.1 h2).2;simp[Array.getElem?_append_left,Wq,this]
 exact callsIn_wide.1 (callsIn_of_wp_marks (F:=Fence.wide) (n:=0) hf hb trivial (wpIn_wide.2 h1) rfl)
theorem S.Q8m{fn:Func}{post:List Assn→Value→List Assn→Prop}{Γf Θ:List Assn}{rs:List ResultVar}{vs:List Value}{D:Nat}{w0:WM false}(hr:fn.results=rs.toArray)(hl:Lw P ρ Θ rs vs)(hp:post Γf (X2 vs) Θ)(he:Ent Γ (Gu D::Θ)) :
  S n w0 ρ Γ (F0 [{target:=.collected D,args:=#[]}] (Q9j P fn post Γf w0 .ret)):=by
 intro a w ha hs hx;have D9:=hs.Qh he;have hk:=D9.Za4;refine⟨(by simp),.inl ⟨D,_,rfl,run_takeDeferred hk,?_⟩⟩
 have Jz:Sat (w.putObj D (.deferred none)) Θ:=by
  have:Sat (w.putObj D (.deferred none)) ((fun h=>h D=some (.deferred none))::Θ):=Sat.setObj D9 (.deferred none) (fun _ p=>⟨_,p⟩) (HL.Xt _ _);exact this.Qh (Ent.drop _ _)
 exact⟨_,(Cl hr hl ha Jz:(results fn a.tmps).run P _=_),_,Θ,rfl,hp,Jz,hx.setObj _ _⟩
theorem S.Qum{α:Type}{g:Operand}{p q:Nat}{id:Nat}{body:Code}{w0:WM false}{gf:FuncId}{fs cs:List Value}{enc:α→Value}{G:List α→α→Prop}{E:List α→Prop}{pre Γ':List Assn}{t1:TypeId}{s1:String}{af1:Array Edge}
  (hg:ev ρ g=some (.func (.func gf) fs.toArray cs.toArray)) (he:V5 P gf=true) (Ql3:Qne P gf fs cs enc G E pre) (I:List α→List Assn) (hI:Ent Γ (pre++(I []++Γ'))) (hp:Nat.blt p n=true) (hq:Nat.blt q n=true)
  (Qby:∀(l:Nat) (done:List α) (x:α) (Θ:List Assn),G done x →
   S n w0 ((q,enc x)::(p,enc x)::ρ) (I done++Θ) (body.wpIn {Fence.wide with round:=some l} 0 P fun e _ W'=>e=.normal∧Sat W' (I (done++[x])++Θ)∧Ext w0 W'))
  (Cz:∀D xs,E xs→S n w0 ρ (Gu D::(pre++(I xs++Γ'))) (F0 [{target:=.collected D,args:=#[]}] (Q .normal))) :
  S n w0 ρ Γ ((Code.rangeFunc g #[p] (.region id #[⟨some q,.assign (.tmp p),t1,s1,af1,none⟩] false) body).wp P Q):=by
 intro a w ha hs hx
 refine(wpIn_wide (n:=0)).1 (Q6l (ha.ev hg) he Ql3 I (hs.Qh hI) hx (fun x=>{tmps:=(a.tmps.setIfInBounds p (enc x)).setIfInBounds q (enc x),defers:=[]}) ?_ ?_ ?_)
 ·intro l x W K hK;have hps:p<a.tmps.size:=by rw[ha.size];have:=hp;simp[Nat.blt]at this;omega
  refine wpIn_region_lit (l:=[⟨some q,.assign (.tmp p),t1,s1,af1,none⟩]) (Tl _ rfl _ _ (Qon (ro:=some l) rfl ?_));unfold Oper.wp;have hv:({tmps:=a.tmps.setIfInBounds p (enc x),defers:=[]}:Act).eval (.tmp p)=enc x:=by simp[Act.eval,hps]
  have hr:(execOp ({tmps:=a.tmps.setIfInBounds p (enc x),defers:=[]}:Act).eval ⟨some q,.assign (.tmp p),t1,s1,af1,none⟩).run P W=.ok (.value (enc x)) W:=by
   simp only[execOp,hv,Sem.run_pure]
  rw[hr,Oper.upon_value];exact hK
 ·intro l done x Θ W D3 hsW hxW
  have ha2:Uc n ((q,enc x)::(p,enc x)::ρ) {tmps:=(a.tmps.setIfInBounds p (enc x)).setIfInBounds q (enc x),defers:=[]}:=by
   have h1:=(ha.put hp (enc x)).put hq (enc x);exact⟨h1.size,rfl,h1.get⟩
  exact Qby l done x Θ D3 _ W ha2 hsW hxW
 ·intro D xs W hE hsW hxW;have:=Cz D xs hE a W ha hsW hxW;rw[ha.defers];exact this
theorem S.Qm3{F:Fence}{id:Nat}{c:Code}(h:S n w0 ρ Γ (c.wpIn F 0 P (Exit.inBlock id Q))):S n w0 ρ Γ ((Code.block id c).wpIn F 0 P Q):=fun a w ha hs hx=>wpIn_block (h a w ha hs hx)
theorem S.Q8n{Δ:List Assn}(he:Ent Γ Δ):S n w0 ρ Γ (fun _ W'=>Exit.normal=Exit.normal∧Sat W' Δ∧Ext w0 W'):=fun _ _ _ hs hx=>⟨rfl,hs.Qh he,hx⟩
def D1(b:Nat)(T E:TypeId)(done:List Value):Assn:=fun h=>∃sv:SV,sv.n=done.length∧stars [blk b T #[sv.v],own sv E 1 done] h
theorem Ent.D1{b:Nat}{T E:TypeId}{done:List Value}(sv:SV)(hn:sv.n=done.length)(Γ:List Assn):Ent (blk b T #[sv.v]::own sv E 1 done::Γ) (D1 b T E done::Γ):=
 (Ent.pack [blk b T #[sv.v],own sv E 1 done] Γ).trans (Ent.W9 Γ fun _ p=>⟨sv,hn,p⟩)
theorem S.D1{φ:Act→World→Prop}{b:Nat}{T E:TypeId}{done:List Value}{Δ:List Assn}[p:Pick (D1 b T E done) Γ Δ](k:∀sv:SV,sv.n=done.length→S n w0 ρ (blk b T #[sv.v]::own sv E 1 done::Δ) φ):S n w0 ρ Γ φ:=by
 intro a w ha hs hx;obtain⟨h0,l,h1,h2,d,l1,l2,⟨sv,hn,q⟩,s⟩:=hs.Qh p.Qh;exact k sv hn a w ha ⟨h0,l,(Ent.unpack [blk b T #[sv.v],own sv E 1 done] Δ) _ ⟨h1,h2,d,l1,l2,q,s⟩⟩ hx
end
abbrev nv(i:Nat):Value:=.int .i64 (i:Int)
theorem Qxw(s:Bs){W:World}(hW:H6 W):Qne Tryz.prog 103 [bsv s] [] nv (fun done x=>∃rest,lst s=done++x::rest) (fun xs=>xs=lst s) [Xa W]:=by
 intro l w0 J hY Γ w hs hx;refine callsIn_wide.2 (Mn (n:=15) (l:=[bsv s,.func (.yield l) #[] #[]]) (Γ:=stars (J [])::Xa W::Γ) (w0:=w0) Tryz.func103 rfl Tryz.ntmps103 rfl ?_ (hs.Qh ((Ent.cons _ (Ent.pack (J []) Γ)).trans (Ent.swap _ _ _))) hx);show S _ w0 [(0,bsv s),(1,.func (.yield l) #[] #[])] (stars (J [])::Xa W::Γ) _;refine S.block ?_;refine S.loop (fun m ρ' Γ'=>∃(j:Nat) (u:Bs) (L:List Nat),L=(lst s).take j∧lst u=(lst s).drop j∧j≤(lst s).length∧m=(lst u).length∧ρ'=[(0,bsv u),(1,.func (.yield l) #[] #[])]∧Γ'=stars (J L)::Xa W::Γ) (m:=_) (ρ0:=_) (Γ0:=_) (⟨0,s,[],rfl,by simp,by omega,rfl,rfl,rfl⟩) (by repeat (first|exact trivial|refine⟨rfl,?_⟩)) Sub.Qh ?_;rintro m ρ' Γ' ⟨j,u,L,hL,hu,hj,hm,rfl,rfl⟩;refine S.seq fun K1 hK1=>?_;refine S.seq fun K2 R0=>(S.region rfl (S.op (S.q (Z8 rfl) rfl rfl (S.op (S.q (Zah rfl rfl) rfl rfl ?_)))));first|with_reducible refine S.Cs ?_|refine S.nil ?_
 refine R0 _ _ ?_
 refine S.Q5s rfl (fun h1=>?_) (fun h1=>?_)
 ·have h0:u≠0#16:=fun e=>h1 (Hj.2 e)
  obtain⟨t,r,hl⟩:∃t r,lst u=t::r:=by
   cases e:lst u with
   | nil=>exact absurd (Qf5.1 e) h0
   | cons t r=>exact⟨t,r,rfl⟩
  have hdr:(lst s).drop j=t::r:=hu.symm.trans hl;have D3:lst s=L++t::r:=by rw[hL,←hdr,List.take_append_drop]
  refine S.skip ?_
  with_reducible repeat (first|refine S.Vq ?_|refine S.Vp ?_|refine S.then_r ?_|refine S.Y2 ?_|refine S.inBlock_r ?_|refine S.inBlock_x rfl ?_|refine S.noGoto_r ?_|refine S.noGoto_n ?_|refine S.noGoto_x ?_)
  refine hK1 _ _ ?_;refine S.seq fun K3 hK3=>(S.block ?_);refine S.seq fun K4 hK4=>(S.Qfm rfl (S.opI rfl ?_));refine  (S.q (Z8 rfl) rfl rfl (S.opI rfl ?_));refine  (S.q (Z8 rfl) rfl rfl (S.opI rfl ?_));refine  (S.call Eo.h (vs:=[_]) ⟨rfl,trivial⟩ (Qk4 u hW) rfl ?_);rintro v Θ ⟨rfl,rfl⟩;refine S.Qky rfl rfl (fun w hs hx=>by rw[M0 hl];exact hY _ t (Xa W::Γ) w ⟨r,D3⟩ (hs.Qh ((Ent.swap _ _ _).trans (Ent.unpack _ _))) hx) rfl (S.Qh (Ent.pack _ _) (S.opI rfl ?_));refine  (S.q (Qob rfl) rfl rfl (S.Qlr ?_));refine hK4 _ _ (S.R2 rfl (S.skip ?_))
  with_reducible repeat (first|refine S.Vq ?_|refine S.Vp ?_|refine S.then_r ?_|refine S.Y2 ?_|refine S.inBlock_r ?_|refine S.inBlock_x rfl ?_|refine S.noGoto_r ?_|refine S.noGoto_n ?_|refine S.noGoto_x ?_)
  with_reducible repeat (first|refine S.Vq ?_|refine S.Vp ?_|refine S.then_r ?_|refine S.Y2 ?_|refine S.inBlock_r ?_|refine S.inBlock_x rfl ?_|refine S.noGoto_r ?_|refine S.noGoto_n ?_|refine S.noGoto_x ?_)
  refine hK3 _ _ (S.region rfl (S.op (S.q (Z8 rfl) rfl rfl (S.op (S.q (Z8 rfl) rfl rfl (S.op (S.q (Qn8 (u) rfl rfl rfl) rfl rfl (S.op (S.q (Pd (u) (u-1#16) rfl rfl (rfl) (rfl)) rfl rfl (S.op (S.q (Jl rfl) rfl rfl ?_)))))))))));first|with_reducible refine S.Cs ?_|refine S.nil ?_
  with_reducible repeat (first|refine S.Vq ?_|refine S.Vp ?_|refine S.then_r ?_|refine S.Y2 ?_|refine S.inBlock_r ?_|refine S.inBlock_x rfl ?_|refine S.noGoto_r ?_|refine S.noGoto_n ?_|refine S.noGoto_x ?_)
  have Wq:0<(lst u).length:=by rw[hl];simp
  have hu2:lst (u &&& (u-1#16))=(lst s).drop (j+1):=by rw[Qj5 u h0,N2 hl,←List.tail_drop,hdr];rfl
  have hj2:j+1≤(lst s).length:=by have:=congrArg List.length hdr;rw[List.length_drop,List.length_cons]at this;omega
  have hm2:m-1=(lst (u &&& (u-1#16))).length:=by rw[hm,Qj5 u h0,N2 hl,hl];simp
  have Hd:L++[t]=(lst s).take (j+1):=by rw[List.take_add,hdr,hL];rfl
  exact S.next (m-1) (⟨j+1,u &&& (u-1#16),L++[t],Hd,hu2,hj2,hm2,rfl,rfl⟩) (by omega) (by repeat (first|exact trivial|refine⟨rfl,?_⟩)) Sub.Qh
 ·have e0:u=0#16:=Hj.1 (Classical.byContradiction h1);rw[e0,Ec]at hu;have hlen:=List.drop_eq_nil_iff.1 hu.symm;have hall:(lst s).take j=lst s:=List.take_of_length_le hlen;rw[hall]at hL;subst hL;refine S.exit ?_
  with_reducible repeat (first|refine S.Vq ?_|refine S.Vp ?_|refine S.then_r ?_|refine S.Y2 ?_|refine S.inBlock_r ?_|refine S.inBlock_x rfl ?_|refine S.noGoto_r ?_|refine S.noGoto_n ?_|refine S.noGoto_x ?_)
  with_reducible refine S.Ps ?_
  with_reducible repeat (first|refine S.Vq ?_|refine S.Vp ?_|refine S.then_r ?_|refine S.Y2 ?_|refine S.inBlock_r ?_|refine S.inBlock_x rfl ?_|refine S.noGoto_r ?_|refine S.noGoto_n ?_|refine S.noGoto_x ?_)
  with_reducible repeat (first|refine S.Vq ?_|refine S.Vp ?_|refine S.then_r ?_|refine S.Y2 ?_|refine S.inBlock_r ?_|refine S.inBlock_x rfl ?_|refine S.noGoto_r ?_|refine S.noGoto_n ?_|refine S.noGoto_x ?_)
  refine S.Q8l rfl ?_;exact fun v w hs hx=>⟨⟨v,rfl⟩,_,rfl,hs.Qh ((Ent.swap _ _ _).trans (Ent.cons _ (Ent.unpack _ _))),hx⟩
abbrev nds(l:List Nat):List Value:=l.map nv
theorem Qv2(s:Bs){W:World}(hW:H6 W):Spec Tryz.prog 64 [bsv s] [Xa W] fun Γ v Θ=>∃sv:SV,v=sv.v∧sv.n=(lst s).length∧Θ=own sv 3 1 (nds (lst s))::Xa W::Γ:=by
 refine Spec.Qa6 Tryz.func64 rfl Tryz.ntmps64 rfl ?_;intro w0 Γ;show S _ w0 [(0,bsv s)] (Xa W::Γ) _;refine S.seq fun K1 hK1=>(S.region rfl (S.op (S.q (Jl rfl) rfl rfl (S.Cs ?_))));refine hK1 _ _ ?_;refine S.seq fun K2 R0=>(S.region rfl (S.op (S.alloc Tryz.z66.h rfl ?_)));intro b3;refine S.Cs ?_;refine R0 _ _ (S.seq1 ?_);refine S.seq fun K4 hK4=>(S.region rfl (S.op (S.q (Z8 rfl) rfl rfl ?_)));refine S.op (S.q (Qaq (vs:=[_]) (us:=[]) ⟨rfl,trivial⟩ trivial) rfl rfl (S.Cs ?_));refine hK4 _ _ (S.block ?_);have Zb4:=Qf6 s
 refine S.Qum (fs:=[bsv s]) (cs:=[]) (enc:=nv) (p:=7) (q:=4) rfl Eo.h (Qxw s hW) (fun done=>[D1 b3 66 3 (nds done)]) (Γ':=Γ) ?_ rfl rfl ?_ ?_
 ·exact(Ent.swap _ _ _).trans (Ent.cons _ ((Ent.cons _ (Ent.Ye 3 1)).trans (Ent.D1 SV.nil rfl _)))
 ·rintro l done x Θ ⟨rest,D3⟩;have hdl:done.length<16:=by rw[D3]at Zb4;simp at Zb4;omega
  show S _ w0 _ (D1 b3 66 3 (nds done)::Θ) _;refine S.D1 (b:=b3) (T:=66) (E:=3) (done:=nds done) fun sv Km=>?_;simp only[List.length_map]at Km;refine S.Qm3 (S.Ni rfl (S.opI rfl ?_));refine(S.q (Kx Eo.h rfl rfl) rfl rfl (S.opI rfl ?_));refine(S.q (Z8 rfl) rfl rfl (S.opI rfl ?_));refine(S.buildSlice (pvs:=[(_,_)]) [_] Tryz.underlying66 Tryz.D2.h rfl rfl ⟨⟨rfl,rfl⟩,trivial⟩ rfl rfl ?_);intro b10;refine S.opI rfl ?_;refine(S.Qu (s:=sv) 1 [nv x] Tryz.underlying66 Tryz.D2.h rfl rfl rfl (Qy (b:=b10) rfl (show 1≤maxLen by unfold maxLen;omega)) rfl ⟨by omega,by omega⟩ rfl ?_);intro s2 Jz;refine S.opI rfl ?_;refine(S.store (cs':=[_]) Eo.h rfl rfl rfl rfl rfl (S.Qlr (S.Q8n ?_)));have e:nds done++[nv x]=nds (done++[x]):=by simp
  rw[e];exact(Sub.Qh (Δ:=blk b3 66 #[s2.v]::own s2 3 1 (nds (done++[x]))::Θ)).trans (Ent.D1 s2 (by simp[Jz,Km]) Θ)
 ·rintro D _ rfl;show S _ w0 _ (Gu D::Xa W::D1 b3 66 3 (nds (lst s))::Γ) _;refine S.D1 (b:=b3) (T:=66) (E:=3) (done:=nds (lst s)) fun sv Km=>?_;simp only[List.length_map]at Km;refine S.Q59 (S.Qfn rfl (S.qD (Kx Eo.h rfl rfl) rfl rfl (S.qD (Jl rfl) rfl rfl (S.Q60 (S.Q6h ?_)))));exact S.Q8m (rs:=[_]) (vs:=[_]) Tryz.results64 ⟨rfl,trivial⟩ (Θ:=own sv 3 1 (nds (lst s))::Xa W::Γ) ⟨sv,rfl,Km,rfl⟩ Sub.Qh
theorem Qes{z:Int}{v:Value}:∀ {l:List (Int×Value)},(l.map (·.1)).Nodup→(Q1 z l=some v↔(z,v)∈l)
 | [],_=>by simp[Q1]
 | x::l,h=>by
  rw[List.map_cons,List.nodup_cons]at h;unfold Q1
  by_cases e:z=x.1
  ·rw[if_pos e,List.mem_cons]
   constructor
   ·intro e2;cases e2;exact .inl (by rw[e])
   ·rintro (e2|h2)
    ·rw[←e2]
    ·exact absurd (List.mem_map.2 ⟨_,h2,e⟩) h.1
  ·rw[if_neg e,Qes h.2,List.mem_cons]
   constructor
   ·exact .inr
   ·rintro (e2|h2)
    ·rw[←e2]at e;exact absurd rfl e
    ·exact h2
theorem Qm5{z:Int}{v:Value}{l:List (Int×Value)}(h:z∉l.map (·.1)):(Yd z v l).Perm ((z,v)::l):=by
 cases e:V6 z l 0 with
 | none=>rw[(Jh e).1];exact List.perm_append_singleton _ _
 | some p=>
  obtain⟨j,w⟩:=p;obtain⟨k,_,h2,_⟩:=Vn e;exact absurd (List.mem_map.2 ⟨_,List.mem_of_getElem? h2,rfl⟩) h
theorem Lr{z:Int}:∀ {l:List (Int×Value)},(l.map (·.1)).Nodup→Ko z l=l.filter fun x=>decide (x.1≠z)
 | [],_=>rfl
 | x::l,h=>by
  rw[List.map_cons,List.nodup_cons]at h;unfold Ko
  by_cases e:z=x.1
  ·rw[if_pos e,List.filter_cons_of_neg (by simp[e])];refine(List.filter_eq_self.2 fun y hy=>?_).symm;have:y.1≠z:=fun e2=>h.1 (List.mem_map.2 ⟨y,hy,e2.trans e⟩)
   simpa using this
  ·rw[if_neg e,List.filter_cons_of_pos (by simpa using fun e2=>e (Eq.symm e2)),Lr h.2]
abbrev jbV(x:Jb):Value:=.agg #[.int .i64 (x.row:Int),bsv x.ns]
abbrev jbE(x:Jb):Int×Value:=((x.id:Int),jbV x)
theorem Qbo{js:List Jb}(hs:js.Pairwise (fun a b=>a.id<b.id)):((js.map jbE).map (·.1)).Nodup:=by
 rw[List.map_map];exact List.pairwise_map.2 (hs.imp fun h e=>by simp only[Function.comp]at e;omega)
theorem C2{js:List Jb}{l:List (Int×Value)}(hs:js.Pairwise (fun a b=>a.id<b.id))(hl:l.Perm (js.map jbE))(j:Nat):Q1 (j:Int) l=(look js j).map jbV:=by
 have hn:(l.map (·.1)).Nodup:=(hl.map (·.1)).nodup_iff.2 (Qbo hs);cases h:look js j with
 | none=>
  refine C8 fun hm=>?_;obtain⟨p,hp,e⟩:=List.mem_map.1 hm;obtain⟨x,hx,rfl⟩:=List.mem_map.1 (hl.mem_iff.1 hp);exact H8 h x hx (by have e:(x.id:Int)=j:=e;omega)
 | some x=>
  obtain⟨h1,h2⟩:=Ka h;exact(Qes hn).2 (hl.mem_iff.2 (List.mem_map.2 ⟨x,h1,by rw[←h2]⟩))
theorem Quz{js:List Jb}{l:List (Int×Value)}(hl:l.Perm (js.map jbE)){x:Jb}(hn:∀y∈js,y.id≠x.id):(Yd (x.id:Int) (jbV x) l).Perm ((D8 x js).map jbE):=by
 refine(Qm5 fun hm=>?_).trans (((hl.cons _).trans (.refl _)).trans ((P8 x js).map jbE).symm);obtain⟨p,hp,e⟩:=List.mem_map.1 hm;obtain⟨y,hy,rfl⟩:=List.mem_map.1 (hl.mem_iff.1 hp);exact hn y hy (by have e:(y.id:Int)=x.id:=e;omega)
theorem Qx2{js:List Jb}{l:List (Int×Value)}(hs:js.Pairwise (fun a b=>a.id<b.id))(hl:l.Perm (js.map jbE))(j:Nat):(Ko (j:Int) l).Perm ((Mm j js).map jbE):=by
 have hn:(l.map (·.1)).Nodup:=(hl.map (·.1)).nodup_iff.2 (Qbo hs)
 have e:(Mm j js).map jbE=(js.map jbE).filter fun x=>decide (x.1≠(j:Int)):=by
  rw[Mm,List.filter_map];refine congrArg (List.map jbE) (List.filter_congr fun x _=>?_);simp only[Function.comp,ne_eq,decide_not,Bool.not_eq_eq_eq_not,Bool.not_not,decide_eq_decide];omega
 rw[Lr hn,e];exact hl.filter _
abbrev mxC(m:Mx)(mb:Nat)(tv:SV):List Value:=[.int .i64 (m.R:Int),.int .i64 (m.N:Int),bsv m.up,.map (some mb),tv.v]
def tks(m:Mx):List Value:=(List.range m.R).map fun r=>bsv (tk m.js r)
theorem G5(m:Mx):(tks m).length=m.R:=by simp[tks]
theorem G6{m:Mx}{r:Nat}(h:r<m.R):(tks m)[r]?=some (bsv (tk m.js r)):=by simp[tks,h]
theorem Qnn{m m':Mx}{r:Nat}(hR:m'.R=m.R)(h:∀q,q<m.R→tk m'.js q=if r=q then tk m'.js r else tk m.js q):(tks m).set r (bsv (tk m'.js r))=tks m':=by
 refine List.ext_getElem? fun q=>?_;rw[List.getElem?_set]
 by_cases hq:q<m.R
 ·rw[G6 (m:=m') (by omega),G6 hq,h q hq,G5]
  by_cases e:r=q
  ·subst e;simp[hq]
  ·rw[if_neg e,if_neg e]
 ·have h1:(tks m)[q]?=none:=List.getElem?_eq_none (by rw[G5];omega);have h2:(tks m')[q]?=none:=List.getElem?_eq_none (by rw[G5];omega);rw[h1,h2,G5]
  by_cases e:r=q
  ·subst e;simp[hq]
  ·rw[if_neg e]
def MI(b:Nat)(m:Mx):Assn:=fun h=>∃(mb:Nat) (tv:SV) (l:List (Int×Value)),Xk m∧l.Perm (m.js.map jbE)∧tv.n=m.R∧stars [blk b 124 (mxC m mb tv).toArray,Qk mb .u32 l,own tv 119 1 (tks m)] h
section
variable {n:Nat}{md:Bool}{w0:WM md}{ρ:Env}{Γ Δ:List Assn}{φ:Act→World→Prop}
theorem S.U4(b:Nat)(m:Mx)[p:Pick (MI b m) Γ Δ](k:∀mb tv l,Xk m→l.Perm (m.js.map jbE)→tv.n=m.R→S n w0 ρ (blk b 124 (mxC m mb tv).toArray::Qk mb .u32 l::own tv 119 1 (tks m)::Δ) φ):S n w0 ρ Γ φ:=by
 intro a w ha hs hx;obtain⟨h0,l0,h1,h2,d,l1,l2,⟨mb,tv,l,q1,q2,q3,q4⟩,s⟩:=hs.Qh p.Qh;exact k mb tv l q1 q2 q3 a w ha ⟨h0,l0,(Ent.unpack [blk b 124 (mxC m mb tv).toArray,Qk mb .u32 l,own tv 119 1 (tks m)] Δ) _ ⟨h1,h2,d,l1,l2,q4,s⟩⟩ hx
theorem S.Y7{b mb:Nat}{m:Mx}{tv:SV}{l:List (Int×Value)}{T e:TypeId}{cs:Array Value}{kk:IntKind}{sz:Nat}{xs:List Value}{Δ' Θ:List Assn}[p:Et Γ b T cs Δ][q:C9 Δ mb kk l Δ'][r:Wx Δ' tv e sz xs Θ]
  (e1:blk b T cs=blk b 124 (mxC m mb tv).toArray) (e2:Qk mb kk l=Qk mb .u32 l) (e3:own tv e sz xs=own tv 119 1 (tks m)) (h1:Xk m) (h2:l.Perm (m.js.map jbE)) (h3:tv.n=m.R)
  (k:S n w0 ρ (MI b m::Θ) φ):S n w0 ρ Γ φ:=by
 have q1:Ent Γ (blk b 124 (mxC m mb tv).toArray::Qk mb .u32 l::own tv 119 1 (tks m)::Θ):=by
  rw[←e1,←e2,←e3];exact p.Qh.trans (Ent.cons _ (q.Qh.trans (Ent.cons _ r.Qh)))
 exact S.Qh (q1.trans ((Ent.pack [blk b 124 (mxC m mb tv).toArray,Qk mb .u32 l,own tv 119 1 (tks m)] Θ).trans (Ent.W9 Θ fun _ s=>⟨mb,tv,l,h1,h2,h3,s⟩))) k
end
theorem Spec.Qq6{b:Nat}{m:Mx}{P:Program}{f:FuncId}{args:List Value}{pre:List Assn}{post:List Assn→Value→List Assn→Prop}{md:Bool}(h:Xk m→Spec P f args (MI b m::pre) post md):Spec P f args (MI b m::pre) post md:=by
 intro Γ w hs;obtain⟨_,_,_,_,_,q1,_⟩:=hs.head;exact h q1 Γ w hs
def V8(m:Mx)(z:Int):Bool:=decide (0≤z)&&decide (z<m.N)
def Kg(m:Mx)(z:Int):Bool:=decide (0≤z)&&decide (z<m.R)
theorem Cq(b:Nat)(m:Mx)(z:Int):Spec Tryz.prog 69 [.pointer (some ⟨b,0,none⟩),.int .i64 z] [MI b m] fun Γ v Θ=>v=.bool (V8 m z)∧Θ=MI b m::Γ:=by
 refine Zbd Tryz.func69 rfl Tryz.ntmps69 fun w0 Γ=>Zsh ?_;refine S.U4 b m fun mb tv l hok hp Fw=>(ZY 8 (ZY 5 ?_))
 refine Zb 11 ef (fun hg1_6=>?_) (fun hg1_6=>?_)
 ·refine ZY 8 (ZY 2 (S.Y7 (b:=b) (m:=m) (mb:=mb) (tv:=tv) rfl rfl rfl hok hp Fw ?_));exact Zf ef Zq (⟨by simp only[X2,V8];simp[*],rfl⟩)
 ·refine ZY 8 (ZY 2 (S.Y7 (b:=b) (m:=m) (mb:=mb) (tv:=tv) rfl rfl rfl hok hp Fw ?_));exact Zf ef Zq (⟨by simp only[X2,V8];simp[*],rfl⟩)
theorem Qdl(b:Nat)(m:Mx)(z:Int):Spec Tryz.prog 126 [.pointer (some ⟨b,0,none⟩),.int .i64 z] [MI b m] fun Γ v Θ=>v=.bool (Kg m z)∧Θ=MI b m::Γ:=by
 refine Zbd Tryz.func126 rfl Tryz.ntmps126 fun w0 Γ=>Zsh ?_;refine S.U4 b m fun mb tv l hok hp Fw=>(ZY 8 (ZY 5 ?_))
 refine Zb 11 ef (fun hg1_6=>?_) (fun hg1_6=>?_)
 ·refine ZY 8 (ZY 2 (S.Y7 (b:=b) (m:=m) (mb:=mb) (tv:=tv) rfl rfl rfl hok hp Fw ?_));exact Zf ef Zq (⟨by simp only[X2,Kg];simp[*],rfl⟩)
 ·refine ZY 8 (ZY 2 (S.Y7 (b:=b) (m:=m) (mb:=mb) (tv:=tv) rfl rfl rfl hok hp Fw ?_));exact Zf ef Zq (⟨by simp only[X2,Kg];simp[*],rfl⟩)
theorem T2(b:Nat)(m:Mx)(j:Nat):Spec Tryz.prog 63 [.pointer (some ⟨b,0,none⟩),.int .u32 (j:Int)] [MI b m] fun Γ v Θ=>v=.bool (look m.js j).isSome∧Θ=MI b m::Γ:=by
 refine Zbd Tryz.func63 rfl Tryz.ntmps63 fun w0 Γ=>Zsh ?_;refine S.U4 b m fun mb tv l hok hp Fw=>?_;have hg:=C2 hok.Yz hp j
 have hj:∃r s,((look m.js j).map jbV).getD (.agg #[.int .i64 0,.int .u16 0])=.agg #[.int .i64 r,.int .u16 s]:=by
  cases look m.js j with
  | none=>exact⟨0,0,rfl⟩
  | some x=>exact⟨_,_,rfl⟩
 obtain⟨jr,jn,hj⟩:=hj;refine ZY 8 (ZY 3 ?_);refine Zv (E6 (.agg #[.int .i64 jr,.int .u16 jn]) ((look m.js j).isSome) Tryz.underlying117 Tryz.underlying31 Tryz.Qc8.h rfl rfl rfl (by rw[hg];cases h:look m.js j with|none=>rw[h]at hj;exact Prod.ext hj.symm rfl|some x=>rw[h]at hj;exact Prod.ext hj.symm rfl)) (ZY 3 (Zp (S.alloc Tryz.Qcp.h rfl ?_)));intro b5;refine Zp (Zs ef ef (cs':=[_,_]) ef (ZY 8 (S.Y7 (b:=b) (m:=m) (mb:=mb) (tv:=tv) rfl rfl rfl hok hp Fw ?_)));exact Zf ef Zq (⟨rfl,rfl⟩)
def Mx.J1(m:Mx)(i:Nat)(on:Bool):Mx:={m with up:=if on then m.up ||| BitVec.twoPow 16 i else m.up &&& ~~~BitVec.twoPow 16 i}
theorem Xk.J1{m:Mx}(h:Xk m){i:Nat}(hi:i<m.N)(on:Bool):Xk (m.J1 i on):=by
 refine⟨h.R1,h.R8,h.N1,h.Bz,fun q hq=>?_,h.Yz,h.B6,h.Al,h.row,h.some,h.ns,h.dis⟩;simp only[Mx.J1]at hq ⊢;cases on with
 | true=>
  rw[if_pos rfl,BitVec.getLsbD_or,Bool.or_eq_true,BitVec.getLsbD_twoPow,Bool.and_eq_true,decide_eq_true_eq,decide_eq_true_eq]at hq
  rcases hq with hq|⟨_,hq⟩
  ·exact h.up q hq
  ·omega
 | false=>
  rw[if_neg (by decide),BitVec.getLsbD_and,Bool.and_eq_true]at hq;exact h.up q hq.1
def upR(m:Mx)(z:Int)(on:Bool):Int×Mx:=if V8 m z then (0,m.J1 z.toNat on) else (1,m)
theorem Ws{m:Mx}{z:Int}:V8 m z=true↔0≤z∧z<m.N:=by simp[V8]
theorem Vi{m:Mx}{z:Int}:Kg m z=true↔0≤z∧z<m.R:=by simp[Kg]
theorem Qsr(b:Nat)(m:Mx)(z:Int)(on:Bool):Spec Tryz.prog 36 [.pointer (some ⟨b,0,none⟩),.int .i64 z,.bool on] [MI b m] fun Γ v Θ=>v=.int .i64 (upR m z on).1∧Θ=MI b (upR m z on).2::Γ:=by
 refine Zbd Tryz.func36 rfl Tryz.ntmps36 fun w0 Γ=>Zsh (ZY 8 (ZY 4 (ZF ef (ZY 4 (Zp (Zcp Ze (Cq b m z) (ZY 3 ?_)))))))
 refine Zi ef (fun h2=>?_) (fun h2=>?_)
 ·have hn:V8 m z=false:=by simpa using h2
  have hu:upR m z on=(1,m):=by simp[upR,hn]
  refine ZY 5 ?_;exact Zf ef Zq (⟨by rw[hu];rfl,by rw[hu]⟩)
 ·have hn:V8 m z=true:=by simpa using h2
  have hr:=Ws.1 hn;refine S.U4 b m fun mb tv l hok hp Fw=>?_;have hN:=hok.Bz;refine ZY 5 ?_
  refine Zi ef (fun h3=>?_) (fun h3=>?_)
  ·subst h3;have hu:upR m z true=(0,m.J1 z.toNat true):=by simp[upR,hn]
   refine Zd ([blk b 124 (mxC m mb tv).toArray]) [9] (Zra 0 9) (ZY 5 ?_);refine Zw ef (Qfp (z.toNat) rfl rfl (by omega) (by omega)) ?_;refine Zw ef (Qoa (m.up) (BitVec.twoPow 16 z.toNat) rfl rfl (rfl) (rfl)) (ZY 2 ?_);refine Z1 (i:=9) ef ef ?_;refine(S.store (cs':=[_,_,_,_,_]) Eo.h rfl rfl rfl rfl rfl ?_);refine ZL ([]) [] ?_;refine ZD (ZY 5 ?_);first|refine S.Y7 (b:=b) (m:=m.J1 z.toNat true) (mb:=mb) (tv:=tv) rfl rfl rfl (hok.J1 (by omega) _) hp Fw ?_|refine S.Y7 (b:=b) (m:=m.J1 z.toNat false) (mb:=mb) (tv:=tv) rfl rfl rfl (hok.J1 (by omega) _) hp Fw ?_
   exact Zf ef Zq (⟨by rw[hu];rfl,by rw[hu]⟩)
  ·subst h3;have hu:upR m z false=(0,m.J1 z.toNat false):=by simp[upR,hn]
   refine Zd ([blk b 124 (mxC m mb tv).toArray]) [9] (Zra 0 9) (ZY 5 ?_);refine Zw ef (Qfp (z.toNat) rfl rfl (by omega) (by omega)) ?_;refine Zw ef (Pc (m.up) (BitVec.twoPow 16 z.toNat) rfl rfl (rfl) (rfl)) (ZY 2 ?_);refine Z1 (i:=9) ef ef ?_;refine(S.store (cs':=[_,_,_,_,_]) Eo.h rfl rfl rfl rfl rfl ?_);refine ZL ([]) [] ?_;refine ZD (ZY 5 ?_);first|refine S.Y7 (b:=b) (m:=m.J1 z.toNat true) (mb:=mb) (tv:=tv) rfl rfl rfl (hok.J1 (by omega) _) hp Fw ?_|refine S.Y7 (b:=b) (m:=m.J1 z.toNat false) (mb:=mb) (tv:=tv) rfl rfl rfl (hok.J1 (by omega) _) hp Fw ?_
   exact Zf ef Zq (⟨by rw[hu];rfl,by rw[hu]⟩)
def V9(m:Mx)(z:Int):Bool:=V8 m z&&m.up.getLsbD z.toNat
theorem Qg4(b:Nat)(m:Mx)(z:Int):Spec Tryz.prog 70 [.pointer (some ⟨b,0,none⟩),.int .i64 z] [MI b m] fun Γ v Θ=>v=.bool (V9 m z)∧Θ=MI b m::Γ:=by
 refine Spec.Qq6 fun hok=>?_;refine Zbd Tryz.func70 rfl Tryz.ntmps70 fun w0 Γ=>Zsh ?_;have hN:=hok.Bz;refine ZY 8 (Zp (Zcp Ze (Cq b m z) (Zy ?_)))
 refine Zbb 8 ef (fun hg1_3=>?_) (fun hg1_3=>?_)
 ·have hr:=Ws.1 hg1_3;refine S.U4 b m fun mb tv l hok hp Fw=>(ZY 5 (Zg ef ef ef (Zcp Ze (Qjn m.up z.toNat z (by omega) (by omega)) (S.Y7 (b:=b) (m:=m) (mb:=mb) (tv:=tv) rfl rfl rfl hok hp Fw (ZY 4 ?_)))));exact Zf ef Zq (⟨by simp only[X2,V9,hg1_3];rfl,rfl⟩)
 ·refine ZY 8 (ZY 2 ?_);exact Zf ef Zq (⟨by simp only[X2,V9,hg1_3];rfl,rfl⟩)
theorem Zak(b:Nat)(m:Mx)(x:Jb)(hn:∀y∈m.js,y.id≠x.id)(h1:1≤x.id)(h2:x.id≤4294967295)(h3:x.row<m.R)(h4:x.ns≠0#16)(h5:∀i,x.ns.getLsbD i=true→i<m.N)(h6:tk m.js x.row &&& x.ns=0#16) :
  Spec Tryz.prog 148 [.pointer (some ⟨b,0,none⟩),.int .u32 (x.id:Int),jbV x] [MI b m] fun Γ _ Θ=>Θ=MI b (m.add x)::Γ:=by
 refine Zbd Tryz.func148 rfl Tryz.ntmps148 fun w0 Γ=>Zsh ?_;refine S.U4 b m fun mb tv l hok hp Fw=>?_;refine S.Qp tv (by have:=hok.R1;omega) fun tb tf Pu Pz Gq Si=>?_;have Sl:=hok.R8;have hadd:=Qz1 x m.js
 have Q5:(tks m).set x.row (bsv (tk m.js x.row ||| x.ns))=tks (m.add x):=by
  have:=Qnn (m:=m) (m':=m.add x) (r:=x.row) rfl fun q _=>by
   show tk (D8 x m.js) q=_;rw[hadd]
   by_cases e:x.row=q
   ·subst e;rw[if_pos rfl,if_pos rfl];exact(hadd _).trans (if_pos rfl) |>.symm
   ·rw[if_neg e,if_neg e]
  rw[←this];show _=(tks m).set x.row (bsv (tk (D8 x m.js) x.row));rw[hadd,if_pos rfl]
 refine ZY 2 (Zp (S.box (cs:=[_,_]) rfl rfl rfl ?_));intro b5;refine ZY 2 ?_;refine Zd ([blk b 124 (mxC m mb tv).toArray,blk b5 121 #[.int .i64 (x.row:Int),bsv x.ns],Qk mb .u32 l]) [6] (Zra 0 6) (ZY 6 ?_);refine Z1 (i:=6) ef ef ?_;refine(S.mapUpdate Tryz.underlying117 Tryz.underlying31 rfl rfl rfl rfl ?_);refine ZL ([]) [] ?_;refine ZD ?_;refine Zd ([blk b 124 (mxC m mb tv).toArray,blk b5 121 #[.int .i64 (x.row:Int),bsv x.ns],own tv 119 1 (tks m)]) [12] (Zra 0 12) (ZY 6 ?_);refine Zw ef (Zx (x.row) ef (Pu) ef (by omega)) ?_;refine Zw ef (Zo (tv) (x.row) ef (Pu) (G6 h3)) (ZY 2 ?_);refine Zw ef (Qoa (tk m.js x.row) (x.ns) rfl rfl (rfl) (rfl)) ?_;refine Zw ef (Zx (x.row) ef (Pu) ef (by omega)) ?_;refine Z1 (i:=12) ef ef ?_;refine(S.Yb (tv) (x.row) Eo.h rfl rfl rfl Pu (by first|rfl|exact Nat.add_assoc _ _ _|omega) (by rw[G5];omega) (Q5) ?_);refine ZL ([]) [] ?_;refine ZD (S.Y7 (b:=b) (m:=m.add x) (mb:=mb) (tv:=tv) rfl rfl rfl (hok.add hn h1 h2 h3 h4 h5 h6) (Quz hp hn) Fw ?_);exact Zfn ef Zq (rfl)
def ofR(m:Mx)(j:Nat):Int×List Nat×Bool:=match look m.js j with
 | some x=>((x.row:Int),lst x.ns,true)
 | none=>(0,[],false)
theorem Hl{m:Mx}{j:Nat}{x:Jb}(h:look m.js j=some x):ofR m j=((x.row:Int),lst x.ns,true):=by simp only[ofR,h]
theorem Nv{m:Mx}{j:Nat}(h:look m.js j=none):ofR m j=(0,[],false):=by simp only[ofR,h]
theorem Q9b(b:Nat)(m:Mx)(j:Nat){W:World}(hW:H6 W):Spec Tryz.prog 25 [.pointer (some ⟨b,0,none⟩),.int .u32 (j:Int)] [MI b m,Xa W] fun Γ v Θ=>∃sv:SV,v=.tuple #[.int .i64 (ofR m j).1,sv.v,.bool (ofR m j).2.2]∧sv.n=(ofR m j).2.1.length ∧
  Θ=own sv 3 1 (nds (ofR m j).2.1)::MI b m::Xa W::Γ:=by
 refine Zbd Tryz.func25 rfl Tryz.ntmps25 fun w0 Γ=>Zsh (ZY 8 (ZY 6 (Zg ef ef ef (Zcp Ze (T2 b m j) (ZY 3 ?_)))))
 refine Zi ef (fun h1=>?_) (fun h1=>?_)
 ·have hn:look m.js j=none:=by cases h:look m.js j with|none=>rfl|some x=>rw[h]at h1;cases h1
  refine ZY 7 ?_;rw[show S _ w0=S _ w0 from rfl];refine S.Qh (Δ:=own SV.nil 3 1 (nds (ofR m j).2.1)::MI b m::Xa W::Γ) (by rw[Nv hn];exact Ent.Ye _ _) ?_;exact Zf ef Zq (⟨SV.nil,by rw[Nv hn];rfl,by rw[Nv hn];rfl,rfl⟩)
 ·obtain⟨x,hx⟩:∃x,look m.js j=some x:=by cases h:look m.js j with|none=>rw[h]at h1;cases h1|some x=>exact⟨x,rfl⟩
  refine S.U4 b m fun mb tv l hok hp Fw=>?_;have hg:=C2 hok.Yz hp j;refine ZY 8 ?_;refine Zv (Qj (jbV x) Tryz.underlying117 Tryz.underlying31 Tryz.Qc8.h rfl rfl rfl (by rw[hg,hx];rfl)) (Zp (S.alloc Tryz.Qcp.h rfl ?_));intro b7;refine Zp (Zs ef ef (cs':=[_,_]) ef (ZY 2 ?_));refine Zd ([blk b7 121 #[.int .i64 (x.row:Int),bsv x.ns],Xa W]) [4] [] ?_;refine ZP 0 [2,3] ef (Qod Eo.h rfl) ef (ZY 2 ?_)
  refine Z2 (i:=1) (j:=4) ef ef ef ?_ ?_
  ·refine(S.q (Kx Eo.h rfl rfl) rfl rfl ?_);refine Zk [] ?_;refine Z1 (i:=4) ef ef ?_;refine  (Zc1 Ze (Qv2 x.ns hW) ?_);rintro v Θ ⟨sv,rfl,Km,rfl⟩;refine ZL ([blk b7 121 #[.int .i64 (x.row:Int),bsv x.ns]]) [5,6,7] (ZY 3 ?_);refine ZD (Zy (S.Y7 (b:=b) (m:=m) (mb:=mb) (tv:=tv) rfl rfl rfl hok hp Fw ?_));exact Zf ef Zq (⟨sv,by rw[Hl hx];rfl,by rw[Hl hx];exact Km,by rw[Hl hx]⟩)
  ·refine  (Zc1 Ze (Qv2 x.ns hW) ?_);rintro v Θ ⟨sv,rfl,Km,rfl⟩;refine ZL ([blk b7 121 #[.int .i64 (x.row:Int),bsv x.ns]]) [1,5,6,7] (ZY 4 ?_);refine ZD (Zy (S.Y7 (b:=b) (m:=m) (mb:=mb) (tv:=tv) rfl rfl rfl hok hp Fw ?_));exact Zf ef Zq (⟨sv,by rw[Hl hx];rfl,by rw[Hl hx];exact Km,by rw[Hl hx]⟩)
def Em(m:Mx)(z:Int):Nat:=if Kg m z then (lst (m.free z.toNat)).length else 0
theorem Q9i(b:Nat)(m:Mx)(z:Int):Spec Tryz.prog 149 [.pointer (some ⟨b,0,none⟩),.int .i64 z] [MI b m] fun Γ v Θ=>v=.int .i64 (Em m z:Nat)∧Θ=MI b m::Γ:=by
 refine Zbd Tryz.func149 rfl Tryz.ntmps149 fun w0 Γ=>Zsh (ZY 8 (Zy (Zp (Zcp Ze (Qdl b m z) (ZY 2 ?_)))))
 refine Zi ef (fun h1=>?_) (fun h1=>?_)
 ·have hn:Kg m z=false:=by simpa using h1
  refine ZY 5 ?_;exact Zf ef Zq (⟨by simp only[X2,Em,hn];rfl,rfl⟩)
 ·have hn:Kg m z=true:=by simpa using h1
  have hr:=Vi.1 hn;refine S.U4 b m fun mb tv l hok hp Fw=>?_;refine S.Qp tv (by omega) fun tb tf Pu Pz Gq Si=>(ZY 2 ?_);refine Zd ([blk b 124 (mxC m mb tv).toArray,own tv 119 1 (tks m)]) [12] (Zra 0 12) (ZY 8 (Zy ?_));refine Zw ef (Zx (z.toNat) ef (Pu) ef (by omega) ((by omega))) ?_;refine Zw ef (Zo (tv) (z.toNat) ef (Pu) (G6 (show z.toNat<m.R by omega))) ?_;refine Zw ef (Pc (m.up) (tk m.js z.toNat) rfl rfl (rfl) (rfl)) ?_;refine Z1 (i:=12) ef ef ?_;refine  (Zcp Ze (Qgu (m.free z.toNat)) ?_);refine ZL ([]) [13] (Zy ?_);refine ZD (Zy (S.Y7 (b:=b) (m:=m) (mb:=mb) (tv:=tv) rfl rfl rfl hok hp Fw ?_));exact Zf ef Zq (⟨by simp only[X2,Em,hn];rfl,rfl⟩)
theorem Qnd(b:Nat)(m:Mx):Spec Tryz.prog 119 [.pointer (some ⟨b,0,none⟩)] [MI b m] fun Γ v Θ=>v=.tuple #[.int .i64 (m.R:Int),.int .i64 (m.N:Int)]∧Θ=MI b m::Γ:=by
 refine Zbd Tryz.func119 rfl Tryz.ntmps119 fun w0 Γ=>Zsh ?_;refine S.U4 b m fun mb tv l hok hp Fw=>(ZY 8 (ZY 3 (ZF ef (ZY 2 ?_))));refine Zd0 (Zra 0 10) (ZY 8 (ZY 2 ?_));refine ZD (Zy (S.Y7 (b:=b) (m:=m) (mb:=mb) (tv:=tv) rfl rfl rfl hok hp Fw ?_));exact Zf ef Zq (⟨rfl,rfl⟩)
def Z0(m:Mx)(j:Nat):Int×Mx:=if (look m.js j).isSome then (0,m.del j) else (6,m)
theorem Nh{m:Mx}{j:Nat}(h:look m.js j=none):Z0 m j=(6,m):=by simp[Z0,h]
theorem E5{m:Mx}{j:Nat}{x:Jb}(h:look m.js j=some x):Z0 m j=(0,m.del j):=by simp[Z0,h]
theorem Qkh(b:Nat)(m:Mx)(j:Nat):Spec Tryz.prog 94 [.pointer (some ⟨b,0,none⟩),.int .u32 (j:Int)] [MI b m] fun Γ v Θ=>v=.int .i64 (Z0 m j).1∧Θ=MI b (Z0 m j).2::Γ:=by
 refine Zbd Tryz.func94 rfl Tryz.ntmps94 fun w0 Γ=>Zsh (ZY 8 (ZY 4 (Zg ef ef ef (Zcp Ze (T2 b m j) (ZY 3 ?_)))))
 refine Zi ef (fun h1=>?_) (fun h1=>?_)
 ·have hn:look m.js j=none:=by cases h:look m.js j with|none=>rfl|some x=>rw[h]at h1;cases h1
  refine ZY 5 ?_;exact Zf ef Zq (⟨by rw[Nh hn];rfl,by rw[Nh hn]⟩)
 ·obtain⟨x,hx⟩:∃x,look m.js j=some x:=by cases h:look m.js j with|none=>rw[h]at h1;cases h1|some x=>exact⟨x,rfl⟩
  refine S.U4 b m fun mb tv l hok hp Fw=>?_;have hg:=C2 hok.Yz hp j;obtain⟨Js,K0⟩:=Ka hx;have Sg:=hok.row x Js;have Sl:=hok.R8;refine S.Qp tv (by omega) fun tb tf Pu Pz Gq Si=>?_
  have Q5:(tks m).set x.row (bsv (tk m.js x.row &&& ~~~x.ns))=tks (m.del j):=by
   have hd:∀q,tk (m.del j).js q=if x.row=q then tk m.js q &&& ~~~x.ns else tk m.js q:=fun q=>by
    have:=Qno hok Js q;rw[K0]at this;exact this
   have:=Qnn (m:=m) (m':=m.del j) (r:=x.row) rfl fun q _=>by
    by_cases e:x.row=q
    ·subst e;rw[if_pos rfl]
    ·rw[hd q,if_neg e,if_neg e]
   rw[←this,hd,if_pos rfl]
  refine ZY 8 ?_;refine Zv (Qj (jbV x) Tryz.underlying117 Tryz.underlying31 Tryz.Qc8.h rfl rfl rfl (by rw[hg,hx];rfl)) (Zp (S.alloc Tryz.Qcp.h rfl ?_));intro b5;refine Zp (Zs ef ef (cs':=[_,_]) ef (ZY 2 ?_));refine Zd ([blk b 124 (mxC m mb tv).toArray,blk b5 121 #[.int .i64 (x.row:Int),bsv x.ns],own tv 119 1 (tks m)]) [12] (Zra 0 12) (ZY 6 ?_);refine Zw ef (Zx (x.row) ef (Pu) ef (by omega)) ?_;refine Zw ef (Zo (tv) (x.row) ef (Pu) (G6 Sg)) (ZY 2 ?_);refine Zw ef (Pc (tk m.js x.row) (x.ns) rfl rfl (rfl) (rfl)) ?_;refine Zw ef (Zx (x.row) ef (Pu) ef (by omega)) ?_;refine Z1 (i:=12) ef ef ?_;refine(S.Yb (tv) (x.row) Eo.h rfl rfl rfl Pu (by first|rfl|exact Nat.add_assoc _ _ _|omega) (by rw[G5];omega) (Q5) ?_);refine ZL ([]) [] ?_;refine ZD (ZY 7 (Zp (S.Jf Tryz.underlying117 Tryz.underlying31 rfl rfl rfl (ZY 6 (S.Y7 (b:=b) (m:=m.del j) (mb:=mb) (tv:=tv) rfl rfl rfl (hok.del j) (Qx2 hok.Yz hp j) Fw ?_)))));exact Zf ef Zq (⟨by rw[E5 hx];rfl,by rw[E5 hx]⟩)
def Fv(m:Mx)(z:Int):Nat→Option Nat
 | 0=>none
 | i+1=>match Fv m z i with
  | some r=>some r
  | none=>if tk m.js ((z+1+i) % m.R).toNat=0#16 then none else some ((z+1+i) % m.R).toNat
def Yh(m:Mx)(z:Int):Int×Bool:=match Fv m (if Kg m z then z else -1) m.R with
 | some r=>((r:Int),true)
 | none=>(0,false)
theorem Rq{m:Mx}{z:Int}{r:Nat}:∀ {k i:Nat},Fv m z i=some r→i≤k→Fv m z k=some r
 | 0,i,h,hk=>by rwa [show i=0 by omega]at h
 | k+1,i,h,hk=>by
  by_cases e:i=k+1
  ·rwa [e]at h
  ·rw[Fv,Rq h (by omega)]
theorem Q9c(b:Nat)(m:Mx)(z:Int):Spec Tryz.prog 88 [.pointer (some ⟨b,0,none⟩),.int .i64 z] [MI b m] fun Γ v Θ=>v=.tuple #[.int .i64 (Yh m z).1,.bool (Yh m z).2]∧Θ=MI b m::Γ:=by
 refine Zbd Tryz.func88 rfl Tryz.ntmps88 fun w0 Γ=>Zsh ?_;obtain⟨z',hz'⟩:∃z',z'=if Kg m z then z else -1:=⟨_,rfl⟩
 refine ZY 8 (ZY 3 (ZF ef (ZY 6 (Zp (Zcp Ze (Qdl b m z) (ZY 2 ?_))))))
 refine Zc (fun ρ' Γ'=>ρ'=[(0,.pointer (some ⟨b,0,none⟩)),(1,.int .i64 z')]∧Γ'=MI b m::Γ) ?_ ?_
 ·refine Zi ef (fun h2=>?_) (fun h2=>?_)
  ·have hn:Kg m z=false:=by simpa using h2
   rw[hn]at hz';refine ZY 3 ?_;first|(subst hz';exact S.meet ⟨rfl,rfl⟩ ⟨rfl,rfl,trivial⟩ Sub.Qh)
  ·have hn:Kg m z=true:=by simpa using h2
   rw[hn]at hz';refine Zy ?_;first|(subst hz';exact S.meet ⟨rfl,rfl⟩ ⟨rfl,rfl,trivial⟩ Sub.Qh)
 ·rintro ρ' Γ' ⟨rfl,rfl⟩;refine S.U4 b m fun mb tv l hok hp Fw=>?_;have Sl:=hok.R8;have P2:=hok.R1
  have hz2:-1≤z'∧z' < m.R:=by
   rw[hz']
   by_cases h:Kg m z=true
   ·rw[if_pos h];have:=Vi.1 h;omega
   ·rw[if_neg h];omega
  refine S.Qp tv (by omega) fun tb tf Pu Pz Gq Si=>(ZY 8 (ZY 2 ?_));refine Zl (fun k ρ' Γ'=>∃i:Nat,k=m.R-i∧i≤m.R∧Fv m z' i=none∧ρ'=[(0,.pointer (some ⟨b,0,none⟩)),(1,.int .i64 z'),(17,.int .i64 m.R),(18,.int .i64 i)]∧Γ'=blk b 124 (mxC m mb tv).toArray::Qk mb .u32 l::own tv 119 1 (tks m)::Γ) (m:=_) (⟨0,rfl,by omega,rfl,rfl,rfl⟩) ?_;rintro k ρ' Γ' ⟨i,hik,hiR,hnu,rfl,rfl⟩;refine ZY 5 ?_
  refine Zj ef (fun h3=>?_) (fun h3=>?_)
  ·have Zby:(((z'+1+i) % m.R).toNat:Int)=(z'+1+i) % m.R:=Int.toNat_of_nonneg (Int.emod_nonneg _ (by omega));have Zj5:((z'+1+i) % m.R)<m.R:=Int.emod_lt_of_pos _ (by omega);refine ZY 8 (ZY 3 (Zv (Za ef ef) (Zy (Zv (Fc rfl rfl (Y0 (by omega) (by omega))) (ZY 4 ?_)))));refine Zv (Ae rfl rfl (⟨by omega,by omega⟩)) (ZY 8 (Zy (Zv (Zx (((z'+1+i) % m.R).toNat) ef (Pu) ef (by omega) (Zby.symm)) ?_)));refine Zv (Zo (tv) (((z'+1+i) % m.R).toNat) ef (Pu) (G6 (show ((z'+1+i) % m.R).toNat<m.R by omega))) (ZY 2 ?_)
   refine Zj ef (fun h4=>?_) (fun h4=>?_)
   ·have hu:Fv m z' (i+1)=some ((z'+1+i) % m.R).toNat:=by
     rw[Fv,hnu];exact if_neg fun e=>h4 (Hj.2 e)
    have Xi:Yh m z=((z'+1+i) % m.R,true):=by
     unfold Yh;rw[←hz',Rq hu (show i+1≤m.R by omega)];exact congrArg (fun q:Int=>(q,true)) Zby
    refine ZY 7 (S.Y7 (b:=b) (m:=m) (mb:=mb) (tv:=tv) rfl rfl rfl hok hp Fw ?_);exact Zf ef Zq (⟨by rw[Xi];rfl,rfl⟩)
   ·have hu:Fv m z' (i+1)=none:=by
     rw[Fv,hnu];exact if_pos (Hj.1 (Classical.byContradiction h4))
    refine ZY 2 (Zv (Za ef ef) (ZY 2 ?_));exact ZX (k-1) (⟨i+1,by omega,by omega,hu,rfl,rfl⟩) (by omega)
  ·have Xi:Yh m z=(0,false):=by
    rw[show i=m.R by omega]at hnu;unfold Yh;rw[←hz',hnu]
   refine ZY 7 (S.Y7 (b:=b) (m:=m) (mb:=mb) (tv:=tv) rfl rfl rfl hok hp Fw ?_);exact Zf ef Zq (⟨by rw[Xi];rfl,rfl⟩)
def mx0(R N:Nat):Mx:=⟨R,N,mask N,[]⟩
theorem Qf1{R N:Nat}(h1:1≤R)(h2:R≤8)(h3:1≤N)(h4:N≤16):Xk (mx0 R N) where
 R1:=h1
 R8:=h2
 N1:=h3
 Bz:=h4
 up:=fun i hi=>(Qvl h4 i).1 hi
 Yz:=List.Pairwise.nil
 B6:=fun _ h=>by cases h
 Al:=fun _ h=>by cases h
 row:=fun _ h=>by cases h
 some:=fun _ h=>by cases h
 ns:=fun _ h=>by cases h
 dis:=fun _ h=>by cases h
theorem Ra(R N:Nat):Yx [Value.int .u16 0] R=tks (mx0 R N):=by
 have e:tks (mx0 R N)=List.replicate R (Value.int .u16 0):=by
  refine List.eq_replicate_iff.2 ⟨G5 _,fun v hv=>?_⟩;obtain⟨r,_,rfl⟩:=List.mem_map.1 hv;rfl
 rw[e];induction R with
 | zero=>rfl
 | succ R ih=>rw[Yx,ih (by
   refine List.eq_replicate_iff.2 ⟨G5 _,fun v hv=>?_⟩;obtain⟨r,_,rfl⟩:=List.mem_map.1 hv;rfl),List.replicate_succ];rfl
theorem Zc5(R N:Nat)(P2:1≤R)(Sl:R≤8)(hN1:1≤N)(C1:N≤16):Spec Tryz.prog 35 [.int .i64 (R:Int),.int .i64 (N:Int)] [] fun Γ v Θ=>∃b,v=.tuple #[.pointer (some ⟨b,0,none⟩),.int .i64 0]∧Θ=MI b (mx0 R N)::Γ:=by
 refine Zbd Tryz.func35 rfl Tryz.ntmps35 fun w0 Γ=>Zsh (ZY 8 (ZY 3 ?_))
 refine Zb 8 ef (fun hg1_2=>?_) (fun hg1_2=>?_)
 ·omega
 ·refine ZY 4 ?_
  refine Zb 12 ef (fun hg1_6=>?_) (fun hg1_6=>?_)
  ·omega
  ·refine ZY 4 ?_
   refine Zb 16 ef (fun hg1_10=>?_) (fun hg1_10=>?_)
   ·omega
   ·refine ZY 4 ?_
    refine Zj ef (fun h1=>?_) (fun h1=>?_)
    ·omega
    ·refine ZY 2 ?_;refine Zd ([]) [] [0,1,2,3,4,6] (ZY 3 ?_);refine Zw ef (Qfp (N) rfl rfl (rfl) (C1)) ?_;refine Zw ef (Qn8 (BitVec.twoPow 16 N) rfl rfl rfl) (Zy ?_)
     refine Z2 (i:=5) (j:=7) ef ef ef ?_ ?_
     ·refine(S.makeMap .u32 rfl ?_);intro b25;refine Zk [] ?_;refine Z1 (i:=7) ef ef ?_;refine(S.makeSlice (R) (R) Tryz.underlying122 Tryz.Qgf.h rfl rfl rfl rfl rfl (Nat.le_refl _) (by omega) rfl ?_);intro tv htv;refine Zk [8] ?_;refine Zw ef (Q3 (pvs:=[(_,_),(_,_),(_,_),(_,_),(_,_)]) [_,_,_,_,_] Tryz.z124.h Tryz.Zas.h ⟨⟨rfl,rfl⟩,⟨rfl,rfl⟩,⟨rfl,rfl⟩,⟨rfl,rfl⟩,⟨rfl,rfl⟩,trivial⟩ rfl) ?_;refine Z1 (i:=9) ef ef ?_;refine(S.box (cs:=[_,_,_,_,_]) rfl rfl rfl ?_);intro b29;refine Zk [10,11] (ZY 2 ?_);refine ZD (Zy ?_);refine S.Y7 (b:=b29) (m:=mx0 R N) (mb:=b25) (tv:=tv) (by rw[Rb N C1];rfl) rfl (by rw[Ra R N]) (Qf1 P2 Sl hN1 C1) (.refl _) htv ?_;exact Zf ef Zq (⟨b29,rfl,rfl⟩)
     ·refine(S.makeSlice (R) (R) Tryz.underlying122 Tryz.Qgf.h rfl rfl rfl rfl rfl (Nat.le_refl _) (by omega) rfl ?_);intro tv htv;refine Zk [] ?_;refine Z1 (i:=5) ef ef ?_;refine(S.makeMap .u32 rfl ?_);intro b25;refine Zk [8] ?_;refine Zw ef (Q3 (pvs:=[(_,_),(_,_),(_,_),(_,_),(_,_)]) [_,_,_,_,_] Tryz.z124.h Tryz.Zas.h ⟨⟨rfl,rfl⟩,⟨rfl,rfl⟩,⟨rfl,rfl⟩,⟨rfl,rfl⟩,⟨rfl,rfl⟩,trivial⟩ rfl) ?_;refine Z1 (i:=9) ef ef ?_;refine(S.box (cs:=[_,_,_,_,_]) rfl rfl rfl ?_);intro b29;refine Zk [10,11] (ZY 2 ?_);refine ZD (Zy ?_);refine S.Y7 (b:=b29) (m:=mx0 R N) (mb:=b25) (tv:=tv) (by rw[Rb N C1];rfl) rfl (by rw[Ra R N]) (Qf1 P2 Sl hN1 C1) (.refl _) htv ?_;exact Zf ef Zq (⟨b29,rfl,rfl⟩)
def Kk(m:Mx)(l:List Int):Nat→Bool
 | 0=>true
 | i+1=>Kk m l i&&V8 m (l.getD i 0)&&(decide (i=0) || decide (l.getD (i-1) 0<l.getD i 0))
abbrev nats(l:List Int):List Nat:=l.map Int.toNat
theorem Qfy{m:Mx}{l:List Int}:∀ {k i:Nat},Kk m l k=true→i≤k→Kk m l i=true
 | 0,i,h,hi=>by rwa [show i=0 by omega]
 | k+1,i,h,hi=>by
  by_cases e:i=k+1
  ·rwa [e]
  ·rw[Kk,Bool.and_eq_true,Bool.and_eq_true]at h;exact Qfy h.1.1 (by omega)
theorem Bq{m:Mx}{l:List Int}{k i:Nat}(h:Kk m l k=true)(hi:i<k):V8 m (l.getD i 0)=true∧(0<i→l.getD (i-1) 0<l.getD i 0):=by
 have:=Qfy h (show i+1≤k by omega);rw[Kk,Bool.and_eq_true,Bool.and_eq_true,Bool.or_eq_true,decide_eq_true_eq,decide_eq_true_eq]at this;exact⟨this.1.2,fun h0=>this.2.resolve_left (by omega)⟩
theorem Ea{m:Mx}{l:List Int}(h:Kk m l l.length=true):(nats l).Pairwise (· < ·)∧∀i∈nats l,i<m.N:=by
 have Rx:∀d i,i+d<l.length→l.getD i 0≤l.getD (i+d) 0∧(0<d→l.getD i 0<l.getD (i+d) 0):=by
  intro d;induction d with
  | zero=>intro i _;exact⟨Int.le_refl _,fun h=>by omega⟩
  | succ d ih=>
   intro i hi;have h1:=ih i (by omega);have h2:=(Bq h (i:=i+d+1) (by omega)).2 (by omega);rw[show i+d+1-1=i+d by omega]at h2;show l.getD i 0≤l.getD (i+d+1) 0∧(0<d+1→l.getD i 0<l.getD (i+d+1) 0);exact⟨by omega,fun _=>by omega⟩
 constructor
 ·refine List.pairwise_iff_getElem.2 fun i j hi hj hij=>?_;simp only[List.length_map]at hi hj;have h1:=(Rx (j-i) i (by omega)).2 (by omega);rw[show i+(j-i)=j by omega]at h1;have h2:=Ws.1 (Bq h (i:=i) hi).1;have h3:=Ws.1 (Bq h (i:=j) hj).1;simp only[List.getElem_map];simp only[List.getD,List.getElem?_eq_getElem hi,List.getElem?_eq_getElem hj,Option.getD_some]at h1 h2 h3;omega
 ·intro i hi;obtain⟨z,hz,rfl⟩:=List.mem_map.1 hi;obtain⟨q,hq,e⟩:=List.getElem_of_mem hz;have h2:=Ws.1 (Bq h (i:=q) hq).1;simp only[List.getD,List.getElem?_eq_getElem hq,Option.getD_some,e]at h2;omega
def Wc(m:Mx)(j:Nat)(z:Int)(l:List Int):Bool:=decide ((j:Int)≠0)&&Kg m z&&decide ((l.length:Int) > 0)
def X7(m:Mx)(j:Nat)(z:Int)(l:List Int):Int×Mx:=
 if (Wc m j z l&&Kk m l l.length)=false then (1,m)
 else if (look m.js j).isSome then (7,m)
 else if tk m.js z.toNat &&& ofL (nats l)≠0#16 then (15,m)
 else (0,m.add ⟨j,z.toNat,ofL (nats l)⟩)
theorem Qll{m:Mx}(hm:Xk m){l:List Int}(h0:0<l.length)(h:Kk m l l.length=true):lst (ofL (nats l))=nats l∧ofL (nats l)≠0#16∧∀i,(ofL (nats l)).getLsbD i=true→i<m.N:=by
 obtain⟨h1,h2⟩:=Ea h;have e:lst (ofL (nats l))=nats l:=Qf4 h1 fun i hi=>by have:=h2 i hi;have:=hm.Bz;omega
 refine⟨e,fun e2=>?_,fun i hi=>h2 i (by rw[←e];exact X9.2 hi)⟩;rw[e2,Ec]at e;have:=congrArg List.length e;simp at this;omega
theorem Qof{m:Mx}(hm:Xk m){j:Nat}(hj:j≤4294967295)(z:Int)(l:List Int):Xk (X7 m j z l).2:=by
 unfold X7
 by_cases h1:(Wc m j z l&&Kk m l l.length)=false
 ·rw[if_pos h1];exact hm
 rw[if_neg h1];have h1:(Wc m j z l&&Kk m l l.length)=true:=by simpa using h1
 rw[Bool.and_eq_true,Wc,Bool.and_eq_true,Bool.and_eq_true,decide_eq_true_eq,decide_eq_true_eq]at h1;obtain⟨⟨⟨q1,q2⟩,q3⟩,q4⟩:=h1;cases h2:look m.js j with
 | some x=>exact hm
 | none=>
  simp only[Option.isSome_none,Bool.false_eq_true,if_false]
  by_cases h3:tk m.js z.toNat &&& ofL (nats l)≠0#16
  ·rw[if_pos h3];exact hm
  rw[if_neg h3];obtain⟨p1,p2,p3⟩:=Qll hm (by omega) q4;have hr:=Vi.1 q2;exact hm.add (H8 h2) (by show 1≤j;omega) hj (by show z.toNat<m.R;omega) p2 p3 (Classical.byContradiction h3)
theorem Qza(b:Nat)(m:Mx)(j:Nat)(z:Int)(R:Assn)(s:SV)(l:List Int)(Uj:s.n=l.length)(hR:RdS R s s.n 1 (ints l))(hj:j≤4294967295):Spec Tryz.prog 116 [.pointer (some ⟨b,0,none⟩),.int .u32 (j:Int),.int .i64 z,s.v] [MI b m,R] fun Γ v Θ=>
  v=.int .i64 (X7 m j z l).1∧Θ=MI b (X7 m j z l).2::R::Γ:=by
 refine Spec.Qq6 fun hok=>?_;refine Zbd Tryz.func116 rfl Tryz.ntmps116 fun w0 Γ=>Zsh ?_;refine S.Nk hR fun _ Zij Zii=>?_;have C1:=hok.Bz;refine ZY 8 (ZY 2 (ZF ef (ZY 2 ?_)))
 refine Zc (fun ρ' Γ'=>∃b9,ρ'=[(0,.pointer (some ⟨b,0,none⟩)),(1,.int .u32 (j:Int)),(2,.int .i64 z),(3,s.v),(9,.pointer (some ⟨b9,0,none⟩)),(10,.bool (Wc m j z l))]∧Γ'=blk b9 121 #[.int .i64 z,.int .u16 0]::MI b m::R::Γ) ?_ ?_
 ·refine ZY 2 ?_;refine Zv (Q3 (pvs:=[(_,_)]) [_,_] Tryz.Qcp.h Tryz.Zet.h ⟨⟨rfl,rfl⟩,trivial⟩ rfl) (ZY 3 ?_)
  refine Zb 19 ef (fun hg3_4=>?_) (fun hg3_4=>?_)
  ·refine ZY 2 (Zg ef ef ef (Zcp Ze (Qdl b m z) (ZY 2 ?_)))
   refine Zbb 24 ef (fun hg3_9=>?_) (fun hg3_9=>?_)
   ·refine ZY 4 (Zp (S.alloc Tryz.Qcp.h rfl ?_));intro b9;refine Zp (Zs ef ef (cs':=[_,_]) ef (ZY 2 ?_));have hpk:Wc m j z l=(decide ((j:Int)≠0)&&Kg m z&&decide ((s.n:Int) > 0)):=by rw[Wc,Uj]
    first|(have e:Wc m j z l=decide ((0:Int)<s.n):=(by rw[hpk,decide_eq_true hg3_4,hg3_9];rfl) ;rw[e] ;exact S.meet ⟨b9,rfl,rfl⟩ ⟨rfl,rfl,rfl,rfl,rfl,rfl,trivial⟩ Sub.Qh)|(have e:Wc m j z l=false:=(by rw[hpk,hg3_9];simp) ;rw[e] ;exact S.meet ⟨b9,rfl,rfl⟩ ⟨rfl,rfl,rfl,rfl,rfl,rfl,trivial⟩ Sub.Qh)|(have e:Wc m j z l=false:=(by rw[hpk,decide_eq_false hg3_4];rfl) ;rw[e] ;exact S.meet ⟨b9,rfl,rfl⟩ ⟨rfl,rfl,rfl,rfl,rfl,rfl,trivial⟩ Sub.Qh)
   ·refine ZY 4 (Zp (S.alloc Tryz.Qcp.h rfl ?_));intro b9;refine Zp (Zs ef ef (cs':=[_,_]) ef (ZY 2 ?_));have hpk:Wc m j z l=(decide ((j:Int)≠0)&&Kg m z&&decide ((s.n:Int) > 0)):=by rw[Wc,Uj]
    first|(have e:Wc m j z l=decide ((0:Int)<s.n):=(by rw[hpk,decide_eq_true hg3_4,hg3_9];rfl) ;rw[e] ;exact S.meet ⟨b9,rfl,rfl⟩ ⟨rfl,rfl,rfl,rfl,rfl,rfl,trivial⟩ Sub.Qh)|(have e:Wc m j z l=false:=(by rw[hpk,hg3_9];simp) ;rw[e] ;exact S.meet ⟨b9,rfl,rfl⟩ ⟨rfl,rfl,rfl,rfl,rfl,rfl,trivial⟩ Sub.Qh)|(have e:Wc m j z l=false:=(by rw[hpk,decide_eq_false hg3_4];rfl) ;rw[e] ;exact S.meet ⟨b9,rfl,rfl⟩ ⟨rfl,rfl,rfl,rfl,rfl,rfl,trivial⟩ Sub.Qh)
  ·refine ZY 8 (Zy (Zp (S.alloc Tryz.Qcp.h rfl ?_)));intro b9;refine Zp (Zs ef ef (cs':=[_,_]) ef (ZY 2 ?_));have hpk:Wc m j z l=(decide ((j:Int)≠0)&&Kg m z&&decide ((s.n:Int) > 0)):=by rw[Wc,Uj]
   first|(have e:Wc m j z l=decide ((0:Int)<s.n):=(by rw[hpk,decide_eq_true hg3_4,hg3_9];rfl) ;rw[e] ;exact S.meet ⟨b9,rfl,rfl⟩ ⟨rfl,rfl,rfl,rfl,rfl,rfl,trivial⟩ Sub.Qh)|(have e:Wc m j z l=false:=(by rw[hpk,hg3_9];simp) ;rw[e] ;exact S.meet ⟨b9,rfl,rfl⟩ ⟨rfl,rfl,rfl,rfl,rfl,rfl,trivial⟩ Sub.Qh)|(have e:Wc m j z l=false:=(by rw[hpk,decide_eq_false hg3_4];rfl) ;rw[e] ;exact S.meet ⟨b9,rfl,rfl⟩ ⟨rfl,rfl,rfl,rfl,rfl,rfl,trivial⟩ Sub.Qh)
 ·rintro ρ' Γ' ⟨b9,rfl,rfl⟩;show S _ w0 _ (blk b9 121 #[.int .i64 z,bsv 0#16]::MI b m::R::Γ) _;refine ZY 8 ?_;refine Zl (fun q ρ' Γ'=>∃(i:Nat) (bs:Bs) (rt:Bool),q=l.length-i∧i≤l.length∧rt=(Wc m j z l&&Kk m l i)∧(rt=true→bs=ofL (nats (l.take i)))∧ρ'=[(0,.pointer (some ⟨b,0,none⟩)),(1,.int .u32 (j:Int)),(2,.int .i64 z),(3,s.v),(9,.pointer (some ⟨b9,0,none⟩)),(10,.bool rt),(29,s.v),(30,.int .i64 s.n),(31,.int .i64 i)]∧Γ'=blk b9 121 #[.int .i64 z,bsv bs]::MI b m::R::Γ) (m:=_) (⟨0,0#16,Wc m j z l,rfl,by omega,(Bool.and_true _).symm,fun _=>rfl,rfl,rfl⟩) ?_;rintro q ρ' Γ' ⟨i,bs,rt,hiq,hil,hrt,hbs,rfl,rfl⟩;refine ZY 5 ?_
  refine Zj ef (fun h2=>?_) (fun h2=>?_)
  ·refine S.F6 hR (by omega) fun sb so Q4=>?_;obtain⟨x,hx⟩:=Yv (show i<l.length by omega);have Fz:l.getD i 0=x:=by simp[List.getD,hx]
   refine ZY 6 (Zv (Zx (i) ef (Q4) ef (by omega)) (Zv (Fb hR i Eo.h rfl Q4 (by omega) (by omega) (Cy hx)) (ZY 4 ?_)))
   refine Zc (fun ρ' Γ'=>∃r2,r2=(Wc m j z l&&Kk m l (i+1))∧ρ'=[(0,.pointer (some ⟨b,0,none⟩)),(1,.int .u32 (j:Int)),(2,.int .i64 z),(3,s.v),(9,.pointer (some ⟨b9,0,none⟩)),(10,.bool r2),(12,.int .i64 x),(29,s.v),(30,.int .i64 s.n),(31,.int .i64 i)]∧Γ'=blk b9 121 #[.int .i64 z,bsv bs]::MI b m::R::Γ) ?_ ?_
   ·refine ZY 3 ?_
    refine Zbb 37 ef (fun hg7_1=>?_) (fun hg7_1=>?_)
    ·refine ZY 2 (Zg ef ef ef (Zcp Ze (Cq b m x) (ZY 2 ?_)))
     refine Zbb 42 ef (fun hg7_6=>?_) (fun hg7_6=>?_)
     ·refine ZY 3 ?_
      refine Zb 45 ef (fun hg7_9=>?_) (fun hg7_9=>?_)
      ·refine ZY 8 (ZY 3 ?_)
       have Uh:(Wc m j z l&&Kk m l (i+1))=(Wc m j z l&&Kk m l i&&V8 m x&&(decide ((i:Int)=0) || decide (l.getD (i-1) 0<x))):=by
        rw[Kk,Fz,←Bool.and_assoc,←Bool.and_assoc];have e:decide (i=0)=decide ((i:Int)=0):=decide_eq_decide.2 (by omega);rw[e]
       first|exact S.meet ⟨_,(by rw[Uh,←hrt,hg7_1,hg7_6,decide_eq_true hg7_9];rfl),rfl,rfl⟩ ⟨rfl,rfl,rfl,rfl,rfl,rfl,rfl,rfl,rfl,rfl,trivial⟩ Sub.Qh|exact S.meet ⟨_,(by rw[Uh,←hrt,hg7_1,hg7_6,decide_eq_false hg7_9,hyd];rfl),rfl,rfl⟩ ⟨rfl,rfl,rfl,rfl,rfl,rfl,rfl,rfl,rfl,rfl,trivial⟩ Sub.Qh|exact S.meet ⟨_,(by rw[Uh,←hrt,hg7_1,hg7_6];rfl),rfl,rfl⟩ ⟨rfl,rfl,rfl,rfl,rfl,rfl,rfl,rfl,rfl,rfl,trivial⟩ Sub.Qh|exact S.meet ⟨_,(by rw[Uh,←hrt,hg7_1];rfl),rfl,rfl⟩ ⟨rfl,rfl,rfl,rfl,rfl,rfl,rfl,rfl,rfl,rfl,trivial⟩ Sub.Qh
      ·obtain⟨y,hy⟩:=Yv (show i-1<l.length by omega);have hyd:l.getD (i-1) 0=y:=by simp[List.getD,hy]
       refine ZY 3 (Zvg ef ef ef (Zm ef ef) (Zvg ef ef ef (Zx (i-1) ef (Q4) ef (by omega) ((by omega))) (Zvg ef ef ef (Fb hR (i-1) Eo.h rfl Q4 (by omega) (by omega) (Cy hy)) (ZY 5 ?_))))
       have Uh:(Wc m j z l&&Kk m l (i+1))=(Wc m j z l&&Kk m l i&&V8 m x&&(decide ((i:Int)=0) || decide (l.getD (i-1) 0<x))):=by
        rw[Kk,Fz,←Bool.and_assoc,←Bool.and_assoc];have e:decide (i=0)=decide ((i:Int)=0):=decide_eq_decide.2 (by omega);rw[e]
       first|exact S.meet ⟨_,(by rw[Uh,←hrt,hg7_1,hg7_6,decide_eq_true hg7_9];rfl),rfl,rfl⟩ ⟨rfl,rfl,rfl,rfl,rfl,rfl,rfl,rfl,rfl,rfl,trivial⟩ Sub.Qh|exact S.meet ⟨_,(by rw[Uh,←hrt,hg7_1,hg7_6,decide_eq_false hg7_9,hyd];rfl),rfl,rfl⟩ ⟨rfl,rfl,rfl,rfl,rfl,rfl,rfl,rfl,rfl,rfl,trivial⟩ Sub.Qh|exact S.meet ⟨_,(by rw[Uh,←hrt,hg7_1,hg7_6];rfl),rfl,rfl⟩ ⟨rfl,rfl,rfl,rfl,rfl,rfl,rfl,rfl,rfl,rfl,trivial⟩ Sub.Qh|exact S.meet ⟨_,(by rw[Uh,←hrt,hg7_1];rfl),rfl,rfl⟩ ⟨rfl,rfl,rfl,rfl,rfl,rfl,rfl,rfl,rfl,rfl,trivial⟩ Sub.Qh
     ·refine ZY 8 (ZY 6 ?_)
      have Uh:(Wc m j z l&&Kk m l (i+1))=(Wc m j z l&&Kk m l i&&V8 m x&&(decide ((i:Int)=0) || decide (l.getD (i-1) 0<x))):=by
       rw[Kk,Fz,←Bool.and_assoc,←Bool.and_assoc];have e:decide (i=0)=decide ((i:Int)=0):=decide_eq_decide.2 (by omega);rw[e]
      first|exact S.meet ⟨_,(by rw[Uh,←hrt,hg7_1,hg7_6,decide_eq_true hg7_9];rfl),rfl,rfl⟩ ⟨rfl,rfl,rfl,rfl,rfl,rfl,rfl,rfl,rfl,rfl,trivial⟩ Sub.Qh|exact S.meet ⟨_,(by rw[Uh,←hrt,hg7_1,hg7_6,decide_eq_false hg7_9,hyd];rfl),rfl,rfl⟩ ⟨rfl,rfl,rfl,rfl,rfl,rfl,rfl,rfl,rfl,rfl,trivial⟩ Sub.Qh|exact S.meet ⟨_,(by rw[Uh,←hrt,hg7_1,hg7_6];rfl),rfl,rfl⟩ ⟨rfl,rfl,rfl,rfl,rfl,rfl,rfl,rfl,rfl,rfl,trivial⟩ Sub.Qh|exact S.meet ⟨_,(by rw[Uh,←hrt,hg7_1];rfl),rfl,rfl⟩ ⟨rfl,rfl,rfl,rfl,rfl,rfl,rfl,rfl,rfl,rfl,trivial⟩ Sub.Qh
    ·refine ZY 8 (ZY 8 (ZY 3 ?_))
     have Uh:(Wc m j z l&&Kk m l (i+1))=(Wc m j z l&&Kk m l i&&V8 m x&&(decide ((i:Int)=0) || decide (l.getD (i-1) 0<x))):=by
      rw[Kk,Fz,←Bool.and_assoc,←Bool.and_assoc];have e:decide (i=0)=decide ((i:Int)=0):=decide_eq_decide.2 (by omega);rw[e]
     first|exact S.meet ⟨_,(by rw[Uh,←hrt,hg7_1,hg7_6,decide_eq_true hg7_9];rfl),rfl,rfl⟩ ⟨rfl,rfl,rfl,rfl,rfl,rfl,rfl,rfl,rfl,rfl,trivial⟩ Sub.Qh|exact S.meet ⟨_,(by rw[Uh,←hrt,hg7_1,hg7_6,decide_eq_false hg7_9,hyd];rfl),rfl,rfl⟩ ⟨rfl,rfl,rfl,rfl,rfl,rfl,rfl,rfl,rfl,rfl,trivial⟩ Sub.Qh|exact S.meet ⟨_,(by rw[Uh,←hrt,hg7_1,hg7_6];rfl),rfl,rfl⟩ ⟨rfl,rfl,rfl,rfl,rfl,rfl,rfl,rfl,rfl,rfl,trivial⟩ Sub.Qh|exact S.meet ⟨_,(by rw[Uh,←hrt,hg7_1];rfl),rfl,rfl⟩ ⟨rfl,rfl,rfl,rfl,rfl,rfl,rfl,rfl,rfl,rfl,trivial⟩ Sub.Qh
   ·rintro ρ' Γ' ⟨r2,Ca,rfl,rfl⟩;refine ZY 4 ?_
    refine Zi ef (fun h3=>?_) (fun h3=>?_)
    ·subst h3;have h3:=Ca.symm;rw[Bool.and_eq_true]at h3;have hnb:=Ws.1 (Bq h3.2 (show i<i+1 by omega)).1;rw[Fz]at hnb;have Qjm:=hbs (by rw[hrt,h3.1,Qfy h3.2 (show i≤i+1 by omega)];rfl);refine Zd ([blk b9 121 #[.int .i64 z,bsv bs]]) [6] (Zra 0 6) (ZY 3 ?_);refine Zw ef (Qfp (x.toNat) rfl rfl (by omega) (by omega)) ?_;refine Zw ef (Qoa (bs) (BitVec.twoPow 16 x.toNat) rfl rfl (rfl) (rfl)) (Zy ?_);refine Z1 (i:=6) ef ef ?_;refine(S.store (cs':=[_,_]) Eo.h rfl rfl rfl rfl rfl ?_);refine ZL ([]) [] ?_;refine ZD (Zy (Zv (Za ef ef) (ZY 2 ?_)));first|(have Ql8:bs ||| BitVec.twoPow 16 x.toNat=ofL (nats (l.take (i+1))):=(by rw[List.take_add_one,hx,Qjm];simp only[Option.toList_some,List.map_append,Qa7];simp[ofL]) ;exact ZX (q-1) ⟨i+1,bs ||| BitVec.twoPow 16 x.toNat,true,by omega,by omega,Ca,fun _=>Ql8,rfl,rfl⟩ (by omega))|exact ZX (q-1) ⟨i+1,bs,r2,by omega,by omega,Ca,fun h=>(by rw[h3]at h;cases h),rfl,rfl⟩ (by omega)
    ·refine ZY 2 (Zv (Za ef ef) (ZY 2 ?_));first|(have Ql8:bs ||| BitVec.twoPow 16 x.toNat=ofL (nats (l.take (i+1))):=(by rw[List.take_add_one,hx,Qjm];simp only[Option.toList_some,List.map_append,Qa7];simp[ofL]) ;exact ZX (q-1) ⟨i+1,bs ||| BitVec.twoPow 16 x.toNat,true,by omega,by omega,Ca,fun _=>Ql8,rfl,rfl⟩ (by omega))|exact ZX (q-1) ⟨i+1,bs,r2,by omega,by omega,Ca,fun h=>(by rw[h3]at h;cases h),rfl,rfl⟩ (by omega)
  ·have hie:i=l.length:=by omega
   subst hie;refine ZY 8 (Zy ?_)
   refine Zi ef (fun h4=>?_) (fun h4=>?_)
   ·have hp:X7 m j z l=(1,m):=by rw[X7,←hrt,if_pos (by simpa using h4)]
    refine ZY 5 ?_;exact Zf ef Zq (⟨by rw[hp];rfl,by rw[hp]⟩)
   ·have hpt:(Wc m j z l&&Kk m l l.length)=true:=by rw[←hrt];simpa using h4
    have Qjm:=hbs (by simpa using h4);have hpt':=hpt;rw[List.take_length]at Qjm;rw[Bool.and_eq_true,Wc,Bool.and_eq_true,Bool.and_eq_true,decide_eq_true_eq,decide_eq_true_eq]at hpt;obtain⟨⟨⟨q1,q2⟩,q3⟩,q4⟩:=hpt;have hr:=Vi.1 q2;obtain⟨r,rfl⟩:∃r:Nat,z=r:=⟨z.toNat,by omega⟩;obtain⟨p1,p2,p3⟩:=Qll hok (show 0<l.length by omega) q4;rw[←Qjm]at p1 p2 p3
    have hpn:X7 m j r l=if (look m.js j).isSome then (7,m) else if tk m.js r &&& bs≠0#16 then (15,m) else (0,m.add ⟨j,r,bs⟩):=by
     rw[X7,hpt',if_neg (by decide),←Qjm,Int.toNat_natCast]
    refine ZY 4 (Zp (Zcp Ze (T2 b m j) (ZY 2 ?_)))
    refine Zi ef (fun h5=>?_) (fun h5=>?_)
    ·rw[if_pos h5]at hpn;refine ZY 5 ?_;exact Zf ef Zq (⟨by rw[hpn];rfl,by rw[hpn]⟩)
    ·rw[if_neg (by rw[h5];decide)]at hpn;have J0:look m.js j=none:=by cases h:look m.js j with|none=>rfl|some x=>rw[h]at h5;cases h5
     refine S.U4 b m fun mb tv lm Sh hpm Fw=>?_;have Sl:=hok.R8;refine S.Qp tv (by omega) fun tb tf Pu Pz Gq Si=>(Zy ?_);refine Zd0 (Zra 0 12) (ZY 5 ?_);refine Zw ef (Zx (r) ef (Pu) ef (by omega)) ?_;refine Zw ef (Zo (tv) (r) ef (Pu) (G6 (show r<m.R by omega))) (ZY 2 ?_);refine Zw ef (Pd (tk m.js r) (bs) rfl rfl (rfl) (rfl)) (ZY 2 ?_);refine ZD ?_
     refine Zj ef (fun h6=>?_) (fun h6=>?_)
     ·rw[if_pos (fun e=>h6 (Hj.2 e))]at hpn;refine ZY 5 (S.Y7 (b:=b) (m:=m) (mb:=mb) (tv:=tv) rfl rfl rfl Sh hpm Fw ?_);exact Zf ef Zq (⟨by rw[hpn];rfl,by rw[hpn]⟩)
     ·have hz0:tk m.js r &&& bs=0#16:=Hj.1 (Classical.byContradiction h6);rw[if_neg (fun h=>h hz0)]at hpn;refine S.Y7 (b:=b) (m:=m) (mb:=mb) (tv:=tv) rfl rfl rfl Sh hpm Fw (ZY 6 ?_);refine Zp (Zc1 Ze (Zak b m ⟨j,r,bs⟩ (H8 J0) (show 1≤j by omega) hj (show r<m.R by omega) p2 p3 hz0) ?_);rintro v Θ rfl;refine ZY 6 ?_;exact Zf ef Zq (⟨by rw[hpn];rfl,by rw[hpn]⟩)
open Go.Sort (SWO putCells putRow mapBlock grow onCells flatK HoldsK putRowK)
theorem Tm{w w':World}(h1:Below w.heap.size w w')(h2:w.drawn≤w'.drawn):∃q os',w'=Sort.grow (w.drewN q) os':=by
 refine⟨w'.drawn-w.drawn,w'.heap.extract w.heap.size w'.heap.size,?_⟩
 have hh:w'.heap=w.heap++w'.heap.extract w.heap.size w'.heap.size:=by
  apply Array.ext_getElem?;intro i
  by_cases hi:i<w.heap.size
  ·rw[Array.getElem?_append_left hi];exact h1.block i hi
  ·rw[Array.getElem?_append_right (by omega),Array.getElem?_extract];have:=h1.size
   by_cases D6:i<w'.heap.size
   ·rw[if_pos (by omega)]
    congr 1
    omega
   ·rw[if_neg (by omega),Array.getElem?_eq_none (by omega)]
 have e1:=h1.os;have e2:=h1.tape;have e3:=h1.output;obtain⟨hp,tp,dr,os,out⟩:=w;obtain⟨hp',tp',dr',os',out'⟩:=w';simp only at e1 e2 e3 h2 hh;subst e1 e2 e3;simp only[Sort.grow,World.drewN,World.mk.injEq,true_and,and_true];exact⟨hh,by omega⟩
theorem Qb3{α:Type}[Inhabited α]{enc:α→List Value}{k:Nat}(hk:∀x,(enc x).length=k)(h0:0<k)(d:Array α):(flatK enc k d).toList=d.toList.flatMap enc:=by
 refine List.ext_getElem? fun j=>?_
 by_cases hj:j<d.size*k
 ·have hd:j / k<d.size:=Nat.div_lt_of_lt_mul (by rw[Nat.mul_comm];exact hj);have hm:j % k<k:=Nat.mod_lt _ h0
  have h1:d.toList[j / k]?=some d[j / k]! := by
   rw[getElem!_pos d _ hd,Array.getElem?_toList];exact Array.getElem?_eq_getElem hd
  have h2:(enc d[j / k]!)[j % k]?=some (enc d[j / k]!)[j % k]! := by
   rw[getElem!_pos (enc d[j / k]!) (j % k) (by rw[hk];exact hm)];exact List.getElem?_eq_getElem _
  have h3:=flat_get hk h1 h2;rw[Nat.mul_comm,Nat.div_add_mod]at h3;rw[h3,Array.getElem?_toList];have h4:=Go.Sort.get_flatK enc k d j hj;rw[←h4,getElem!_pos _ _ (by simpa using hj)];exact Array.getElem?_eq_getElem _
 ·rw[List.getElem?_eq_none (by simp;omega),List.getElem?_eq_none (by rw[Z3 hk];simp;omega)]
theorem Ft{off:Nat}{F cur:Array Value}(h:off+F.size≤cur.size):((putCells id off F cur).toList.drop off).take F.size=F.toList:=by
 refine List.ext_getElem? fun j=>?_
 by_cases hj:j<F.size
 ·rw[List.getElem?_take_of_lt hj,List.getElem?_drop,Array.getElem?_toList,Array.getElem?_toList];unfold putCells;rw[Array.getElem?_mapIdx,Array.getElem?_eq_getElem (show off+j<cur.size by omega)];simp only[Option.map_some];rw[if_pos (by omega),Nat.add_sub_cancel_left,getElem!_pos F j hj];exact(Array.getElem?_eq_getElem hj).symm
 ·rw[List.getElem?_eq_none (by simp;omega),List.getElem?_eq_none (by simp;omega)]
theorem T6{α:Type}[Inhabited α]{enc:α→List Value}{k:Nat}{w:World}{b off n:Nat}{d:Array α}{os:Array Obj}{cur:Array Value}{e:TypeId}(hb:Blk w b e cur):Blk (sortWorldK enc k w b off n d os) b e (putCells id off (flatK enc k d) cur) ∧
  Keeps (fun i=>i=b) w (sortWorldK enc k w b off n d os):=by
 have Wq:=hb.lt;have G3:(putRowK enc k (Sort.ahead w n) b off d).heap.size=w.heap.size:=by simp[putRowK,putRow,mapBlock]
 have hold:∀i,i<w.heap.size→(sortWorldK enc k w b off n d os).heap[i]?=(w.heap.modify b (onCells (putCells id off (flatK enc k d))))[i]?:=fun i hi=>by
  show ((putRowK enc k (Sort.ahead w n) b off d).heap++os)[i]?=_;rw[Array.getElem?_append_left (by rw[G3];exact hi)];rfl
 refine⟨?_,rfl,rfl,rfl,?_,fun i hi Uk=>?_,?_⟩
 ·unfold Blk;rw[hold b Wq,Array.getElem?_modify,if_pos rfl,show w.heap[b]?=some (.cells cur e (0,0)) from hb];rfl
 ·show w.heap.size≤((putRowK enc k (Sort.ahead w n) b off d).heap++os).size;rw[Array.size_append,G3];omega
 ·rw[hold i hi,Array.getElem?_modify,if_neg (fun e=>Uk e.symm)]
 ·show w.drawn≤w.drawn+n;omega
theorem Mq{P:Program}{ρ:Go.Shelf.Ren}(L:SlLaysF0.n6 P ρ){α:Type}[Inhabited α](k:Nat)(aE:∀w,(isAgg (ρ.t 24)).run P w=.ok true w)(zE:∀w,(Go.sizeOf (ρ.t 24)).run P w=.ok k w)(enc:α→List Value)(hk:∀x,(enc x).length=k)(h0:0<k)(h1:∀x,∀v∈enc x,v.oneCell'=true)
  (cf:α→α→Int) (hO:SWO (Go.Proofs.ltOf cf)) (g:Nat) (eg:∀args w,(callFunc g args).run P w=.ok (.enter g args) w) (Q75:∀x y W,Um P g [.agg (enc x).toArray,.agg (enc y).toArray] W (.int .i64 (cf x y))) (e:TypeId) (s:SV) (l:List α) (hl:l.length<4611686018427387904) :
  Spec P (ρ.f 6) [s.v,.func (.func g) #[] #[]] [own s e k (l.flatMap enc)] fun Γ _ Θ=>∃l':List α,l'.Perm l∧l'.Pairwise (fun a b=>Go.Proofs.ltOf cf b a=false)∧Θ=own s e k (l'.flatMap enc)::Γ:=by
 intro Γ w hs;obtain⟨x0,le0,p0⟩:=hs.head;have hO0:=(p0.mono le0).Qde;have hlen:=hO0.1;rw[Z3 hk]at hlen;have hn:l.length=s.n:=Nat.eq_of_mul_eq_mul_right h0 hlen
 by_cases hz:s.n=0
 ·refine(show Calls P (ρ.f 6) #[.slice s.a s.n s.c,.func (.func g) #[] #[]] w _ from ?_);rw[hz];refine(AnyF.slices_SortFunc_none L s.a s.c _ w).mono ?_;rintro e' w' ⟨rfl,rfl⟩;obtain rfl:l=[]:=List.eq_nil_of_length_eq_zero (by omega);exact⟨_,_,rfl,⟨[],.refl _,List.Pairwise.nil,rfl⟩,hs,Ext.refl _⟩
 ·rcases hO0.2 with ⟨_,h3,_⟩|⟨b,off,c,cur,q1,q2,hB,q4,q5,q6,q7⟩
  ·omega
  ·simp only[SV.v,Value.slice.injEq,true_and]at q1;obtain⟨q1,rfl⟩:=q1;have G3:l.toArray.size=l.length:=by simp
   have Sj:(flatK enc k l.toArray).toList=l.flatMap enc:=by rw[Qb3 hk h0]
   have hfz:(flatK enc k l.toArray).size=s.n*k:=by rw[Go.Sort.size_flatK,G3,hn]
   have hcm:s.n*k≤s.c*k:=Nat.mul_le_mul_right _ q4
   have hH:HoldsK enc k w b off l.toArray:=by
    intro j hj;rw[hfz]at hj;refine⟨?_,hB.frozen _⟩;rw[hB.cell]
    have e1:(l.flatMap enc)[j]?=cur[off+j]?:=by
     rw[←q7,List.getElem?_take_of_lt hj,List.getElem?_drop,Array.getElem?_toList]
    rw[←e1,←Sj,Array.getElem?_toList,getElem!_pos _ _ (by rw[hfz];exact hj)];exact Array.getElem?_eq_getElem _
   have hcl:CmpLays P g #[] enc k cf b off l.toArray.size w:=fun m os dk _ x y=>by
    refine(pure_run (Q75 x y (sortWorldK enc k w b off m dk os))).mono ?_;rintro e' w' ⟨rfl,hb,hd⟩;obtain⟨q,os',e2⟩:=Tm hb hd;exact⟨rfl,q,os',e2⟩
   have hc:=AnyQ.slices_SortFunc L k aE zE enc hk h1 cf hO g #[] b off s.c l.toArray w eg hcl hH hB.lt (by rw[G3];exact hl);refine(show Calls P (ρ.f 6) #[.slice s.a s.n s.c,.func (.func g) #[] #[]] w _ from ?_);rw[q1];rw[G3,hn]at hc;refine hc.mono ?_;rintro e' w' ⟨rfl,d',nn,os,hp,hsd,rfl⟩;obtain⟨k1,k2⟩:=T6 (enc:=enc) (k:=k) (off:=off) (n:=nn) (d:=d') (os:=os) hB;have hd'z:d'.size=s.n:=by rw[hp.1,G3,hn]
   have hF:(flatK enc k d').size=s.n*k:=by rw[Go.Sort.size_flatK,hd'z]
   refine⟨_,_,rfl,⟨d'.toList,?_,?_,rfl⟩,?_,k2.os,k2.tape,k2.output,k2.size,fun _=>k2.drawn⟩
   ·have:=hp.2.2;rw[←hd'z,Array.extract_size,hd'z,show s.n=l.toArray.size by rw[G3,hn],Array.extract_size]at this
    simpa using this
   ·rw[List.pairwise_iff_getElem];intro i j hi hj hij;have:=hsd i j (Nat.zero_le _) hij (by simpa [hd'z] using hj);rw[getElem!_pos d' i (by simpa using hi),getElem!_pos d' j (by simpa using hj)]at this
    simpa using this
   ·refine hs.Qa2 (b:=b) ⟨?_,.inr ⟨b,off,s.c,_,by simp only[SV.v,q1],rfl,k1,q4,q5,?_,?_⟩⟩ (by rw[q1];rfl) k2
    ·rw[Z3 hk];simp[hd'z]
    ·simp only[putCells,Array.size_mapIdx];exact q6
    ·have:=Ft (off:=off) (F:=flatK enc k d') (cur:=cur) (by rw[hF];omega);rw[hF,Qb3 hk h0]at this;exact this
open Go.Sort (SWO putCells putRow mapBlock grow onCells Holds)
theorem Qfs{α:Type}[Inhabited α](enc:α→Value)(off:Nat)(d:List α)(cur:Array Value):putCells enc off d.toArray cur=putCells id off (d.map enc).toArray cur:=by
 unfold putCells;refine congrArg (fun f=>Array.mapIdx f cur) ?_
 funext k x
 have hs:(d.map enc).toArray.size=d.toArray.size:=by simp
 rw[hs]
 split
 ·rename_i h;have hk:k-off<d.length:=by have:=h.2;simp at this;omega
  rw[getElem!_pos d.toArray (k-off) (by simpa using hk),getElem!_pos (d.map enc).toArray (k-off) (by simpa using hk)];simp
 ·rfl
theorem Dv{α:Type}[Inhabited α]{enc:α→Value}{w:World}{b off n:Nat}{d:Array α}{os:Array Obj}{cur:Array Value}{e:TypeId}(hb:Blk w b e cur):Blk (sortWorld enc w b off n d os) b e (putCells enc off d cur) ∧
  Keeps (fun i=>i=b) w (sortWorld enc w b off n d os):=by
 have Wq:=hb.lt;have G3:(putRow enc (Sort.ahead w n) b off d).heap.size=w.heap.size:=by simp[putRow,mapBlock]
 have hold:∀i,i<w.heap.size→(sortWorld enc w b off n d os).heap[i]?=(w.heap.modify b (onCells (putCells enc off d)))[i]?:=fun i hi=>by
  show ((putRow enc (Sort.ahead w n) b off d).heap++os)[i]?=_;rw[Array.getElem?_append_left (by rw[G3];exact hi)];rfl
 refine⟨?_,rfl,rfl,rfl,?_,fun i hi Uk=>?_,?_⟩
 ·unfold Blk;rw[hold b Wq,Array.getElem?_modify,if_pos rfl,show w.heap[b]?=some (.cells cur e (0,0)) from hb];rfl
 ·show w.heap.size≤((putRow enc (Sort.ahead w n) b off d).heap++os).size;rw[Array.size_append,G3];omega
 ·rw[hold i hi,Array.getElem?_modify,if_neg (fun e=>Uk e.symm)]
 ·show w.drawn≤w.drawn+n;omega
theorem Qkg{P:Program}{ρ:Go.Shelf.Ren}(L:SlLaysF.n6 P ρ)(L0:SlLaysF0.n6 P ρ){α:Type}[Inhabited α](enc:α→Value)(h1:∀x,(enc x).oneCell'=true)
  (cf:α→α→Int) (hO:SWO (Go.Proofs.ltOf cf)) (g:Nat) (cb:List Value) (eg:∀args w,(callFunc g args).run P w=.ok (.enter g args) w) (pre:List Assn)
  (Q75:∀x y W Γ,Sat W (pre++Γ)→Um P g ([enc x,enc y]++cb) W (.int .i64 (cf x y))) (e:TypeId) (s:SV) (l:List α) (hl:l.length<4611686018427387904) :
  Spec P (ρ.f 6) [s.v,.func (.func g) #[] cb.toArray] (own s e 1 (l.map enc)::pre) fun Γ _ Θ=>∃l':List α,l'.Perm l∧l'.Pairwise (fun a b=>Go.Proofs.ltOf cf b a=false)∧Θ=own s e 1 (l'.map enc)::(pre++Γ):=by
 intro Γ w hs;obtain⟨x0,le0,p0⟩:=hs.head;have hO0:=(p0.mono le0).Qde;have hlen:=hO0.1;rw[List.length_map,Nat.mul_one]at hlen
 by_cases hz:s.n=0
 ·refine(show Calls P (ρ.f 6) #[.slice s.a s.n s.c,.func (.func g) #[] cb.toArray] w _ from ?_);rw[hz];refine(AnyF.slices_SortFunc_none L0 s.a s.c _ w).mono ?_;rintro e' w' ⟨rfl,rfl⟩;obtain rfl:l=[]:=List.eq_nil_of_length_eq_zero (by omega);exact⟨_,_,rfl,⟨[],.refl _,List.Pairwise.nil,rfl⟩,hs,Ext.refl _⟩
 ·rcases hO0.2 with ⟨_,h3,_⟩|⟨b,off,c,cur,q1,q2,hB,q4,q5,q6,q7⟩
  ·omega
  ·simp only[SV.v,Value.slice.injEq,true_and]at q1;obtain⟨q1,rfl⟩:=q1;rw[Nat.mul_one]at q6 q7;have G3:l.toArray.size=l.length:=by simp
   have hown:∀(m:Nat) (os:Array Obj) (dk:Array α),dk.size=l.toArray.size→Sat (sortWorld enc w b off m dk os) (own s e 1 (dk.toList.map enc)::(pre++Γ)):=fun m os dk hdk=>by
    obtain⟨k1,k2⟩:=Dv (enc:=enc) (off:=off) (n:=m) (d:=dk) (os:=os) hB;have hF:(dk.toList.map enc).toArray.size=s.n:=by simp[hdk];omega
    refine Sat.Qa2 (s:=s) (xs:=l.map enc) hs (b:=b) ⟨?_,.inr ⟨b,off,s.c,_,by simp only[SV.v,q1],rfl,k1,q4,q5,?_,?_⟩⟩ (by rw[q1];rfl) k2
    ·simpa using hF
    ·simp only[putCells,Array.size_mapIdx];omega
    ·have e2:=Qfs enc off dk.toList cur;rw[Array.toArray_toList]at e2;have:=Ft (off:=off) (F:=(dk.toList.map enc).toArray) (cur:=cur) (by rw[hF];omega);rw[hF]at this;rw[e2,Nat.mul_one];exact this
   have hH:Holds enc w b off l.toArray:=by
    intro j hj;rw[G3]at hj;refine⟨?_,hB.frozen _⟩;rw[hB.cell]
    have e1:(l.map enc)[j]?=cur[off+j]?:=by
     rw[←q7,List.getElem?_take_of_lt (by omega),List.getElem?_drop,Array.getElem?_toList]
    rw[←e1,List.getElem?_map,List.getElem?_eq_getElem hj,getElem!_pos l.toArray j (by simpa using hj)];simp
   have hcl:CmpLays1 P g cb.toArray enc cf b off l.toArray.size w:=fun m os dk hdk x y=>by
    have Jz:=(hown m os dk hdk).Qh (Ent.drop _ _);have ea:#[enc x,enc y]++cb.toArray=([enc x,enc y]++cb).toArray:=by simp
    rw[ea];refine((pure_run (Q75 x y (sortWorld enc w b off m dk os) Γ Jz)).mono ?_);rintro e' w' ⟨rfl,hb,hd⟩;obtain⟨q,os',e2⟩:=Tm hb hd;exact⟨rfl,q,os',e2⟩
   have hc:=Any.slices_SortFunc L enc h1 cf hO g cb.toArray b off s.c l.toArray w eg hcl hH hB.lt (by rw[G3];exact hl);refine(show Calls P (ρ.f 6) #[.slice s.a s.n s.c,.func (.func g) #[] cb.toArray] w _ from ?_);rw[q1];rw[G3,show l.length=s.n by omega]at hc;refine hc.mono ?_;rintro e' w' ⟨rfl,d',nn,os,hp,hsd,rfl⟩;have hd'z:d'.size=l.toArray.size:=hp.1;obtain⟨_,k2⟩:=Dv (enc:=enc) (off:=off) (n:=nn) (d:=d') (os:=os) hB
   refine⟨_,_,rfl,⟨d'.toList,?_,?_,rfl⟩,hown nn os d' hd'z,k2.os,k2.tape,k2.output,k2.size,fun _=>k2.drawn⟩
   ·have:=hp.2.2;rw[show s.n=d'.size by rw[hd'z,G3];omega,Array.extract_size,hd'z,Array.extract_size]at this
    simpa using this
   ·rw[List.pairwise_iff_getElem];intro i j hi hj hij;have:=hsd i j (Nat.zero_le _) hij (by simp at hj;rw[hd'z,G3]at hj;omega);rw[getElem!_pos d' i (by simpa using hi),getElem!_pos d' j (by simpa using hj)]at this
    simpa using this
end Go.Proofs.YtdackcibfkkniaaGreatDoor
namespace Go.Proofs
open Go.Shelf
def Tryz.Qht:Go.Shelf.Ren:=⟨fun|6=>127|15=>138|14=>153|28=>165|29=>166|20=>179|21=>180|22=>181|23=>182|24=>183|25=>184|26=>185|27=>186|46=>214|47=>188|48=>189|49=>215|50=>216|57=>240|n=>n,fun|22=>53|24=>31|25=>203|3=>3|39=>215|0=>0|53=>31|55=>225|4=>4|46=>243|45=>242|50=>164|5=>5|9=>9|66=>270|70=>274|76=>293|77=>193|n=>n,fun|n=>n⟩
theorem Tryz.Qnx:Go.Proofs.SlLaysF.n6 Tryz.prog Tryz.Qht:={
 mixed:=by kernel_rfl
 f6:=⟨Tryz.f127.name,by decide,Tryz.func127.trans (congrArg some (by kernel_rfl))⟩
 f14:=⟨Tryz.f153.name,by decide,Tryz.func153.trans (congrArg some (by kernel_rfl))⟩
 f15:=Tryz.func138.trans (congrArg some (by kernel_rfl))
 f20:=⟨Tryz.f179.name,by decide,Tryz.func179.trans (congrArg some (by kernel_rfl))⟩
 f21:=⟨Tryz.f180.name,by decide,Tryz.func180.trans (congrArg some (by kernel_rfl))⟩
 f22:=⟨Tryz.f181.name,by decide,Tryz.func181.trans (congrArg some (by kernel_rfl))⟩
 f23:=⟨Tryz.f182.name,by decide,Tryz.func182.trans (congrArg some (by kernel_rfl))⟩
 f24:=⟨Tryz.f183.name,by decide,Tryz.func183.trans (congrArg some (by kernel_rfl))⟩
 f25:=⟨Tryz.f184.name,by decide,Tryz.func184.trans (congrArg some (by kernel_rfl))⟩
 f26:=⟨Tryz.f185.name,by decide,Tryz.func185.trans (congrArg some (by kernel_rfl))⟩
 f27:=⟨Tryz.f186.name,by decide,Tryz.func186.trans (congrArg some (by kernel_rfl))⟩
 f28:=Tryz.func165.trans (congrArg some (by kernel_rfl))
 f29:=Tryz.func166.trans (congrArg some (by kernel_rfl))
 f46:=⟨Tryz.f214.name,by decide,Tryz.func214.trans (congrArg some (by kernel_rfl))⟩
 f47:=Tryz.func188.trans (congrArg some (by kernel_rfl))
 f48:=Tryz.func189.trans (congrArg some (by kernel_rfl))
 f49:=⟨Tryz.f215.name,by decide,Tryz.func215.trans (congrArg some (by kernel_rfl))⟩
 f50:=⟨Tryz.f216.name,by decide,Tryz.func216.trans (congrArg some (by kernel_rfl))⟩
 f57:=⟨Tryz.f240.name,by decide,Tryz.func240.trans (congrArg some (by kernel_rfl))⟩
 t0:=Tryz.underlying0
 a0:=Tryz.isAgg0
 z0:=Tryz.sizeOf0
 v0:=Tryz.zeroValue0
 t3:=Tryz.underlying3
 a3:=Tryz.isAgg3
 z3:=Tryz.sizeOf3
 v3:=Tryz.zeroValue3
 t4:=Tryz.underlying4
 a4:=Tryz.isAgg4
 z4:=Tryz.sizeOf4
 v4:=Tryz.zeroValue4
 t5:=Tryz.underlying5
 a5:=Tryz.isAgg5
 z5:=Tryz.sizeOf5
 v5:=Tryz.zeroValue5
 t9:=Tryz.underlying9
 a9:=Tryz.isAgg9
 z9:=Tryz.sizeOf9
 v9:=Tryz.zeroValue9
 t22:=Tryz.underlying53
 a22:=Tryz.isAgg53
 z22:=Tryz.sizeOf53
 v22:=Tryz.zeroValue53
 a24:=Tryz.isAgg31
 z24:=Tryz.sizeOf31
 t25:=Tryz.underlying203
 a25:=Tryz.isAgg203
 z25:=Tryz.sizeOf203
 v25:=Tryz.zeroValue203
 t39:=Tryz.underlying215
 a39:=Tryz.isAgg215
 z39:=Tryz.sizeOf215
 v39:=Tryz.zeroValue215
 t45:=Tryz.underlying242
 a45:=Tryz.isAgg242
 z45:=Tryz.sizeOf242
 v45:=Tryz.zeroValue242
 t46:=Tryz.underlying243
 a46:=Tryz.isAgg243
 z46:=Tryz.sizeOf243
 v46:=Tryz.zeroValue243
 t50:=Tryz.underlying164
 a50:=Tryz.isAgg164
 z50:=Tryz.sizeOf164
 v50:=Tryz.zeroValue164
 t53:=Tryz.underlying31
 a53:=Tryz.isAgg31
 z53:=Tryz.sizeOf31
 v53:=Tryz.zeroValue31
 t55:=Tryz.underlying225
 a55:=Tryz.isAgg225
 z55:=Tryz.sizeOf225
 v55:=Tryz.zeroValue225
 t66:=Tryz.underlying270
 a66:=Tryz.isAgg270
 z66:=Tryz.sizeOf270
 v66:=Tryz.zeroValue270
 t70:=Tryz.underlying274
 a70:=Tryz.isAgg274
 z70:=Tryz.sizeOf274
 v70:=Tryz.zeroValue274
 t76:=Tryz.underlying293
 a76:=Tryz.isAgg293
 z76:=Tryz.sizeOf293
 v76:=Tryz.zeroValue293
 t77:=Tryz.underlying193
 a77:=Tryz.isAgg193
 z77:=Tryz.sizeOf193
 v77:=Tryz.zeroValue193}
def Tryz.Qhs:Go.Shelf.Ren:=⟨fun|6=>142|15=>138|14=>169|28=>165|29=>166|20=>193|21=>194|22=>195|23=>196|24=>197|25=>198|26=>199|27=>200|46=>218|47=>188|48=>189|49=>219|50=>220|57=>241|n=>n,fun|22=>184|24=>183|25=>224|3=>3|39=>215|0=>0|53=>31|55=>225|4=>4|46=>243|45=>242|50=>164|5=>5|9=>9|66=>270|70=>274|76=>293|77=>193|n=>n,fun|n=>n⟩
theorem Tryz.Q0d:Go.Proofs.SlLaysF0.n6 Tryz.prog Tryz.Qhs:={
 mixed:=by kernel_rfl
 f6:=⟨Tryz.f142.name,by decide,Tryz.func142.trans (congrArg some (by kernel_rfl))⟩
 f14:=⟨Tryz.f169.name,by decide,Tryz.func169.trans (congrArg some (by kernel_rfl))⟩
 f15:=Tryz.func138.trans (congrArg some (by kernel_rfl))
 f20:=⟨Tryz.f193.name,by decide,Tryz.func193.trans (congrArg some (by kernel_rfl))⟩
 f21:=⟨Tryz.f194.name,by decide,Tryz.func194.trans (congrArg some (by kernel_rfl))⟩
 f22:=⟨Tryz.f195.name,by decide,Tryz.func195.trans (congrArg some (by kernel_rfl))⟩
 f23:=⟨Tryz.f196.name,by decide,Tryz.func196.trans (congrArg some (by kernel_rfl))⟩
 f24:=⟨Tryz.f197.name,by decide,Tryz.func197.trans (congrArg some (by kernel_rfl))⟩
 f25:=⟨Tryz.f198.name,by decide,Tryz.func198.trans (congrArg some (by kernel_rfl))⟩
 f26:=⟨Tryz.f199.name,by decide,Tryz.func199.trans (congrArg some (by kernel_rfl))⟩
 f27:=⟨Tryz.f200.name,by decide,Tryz.func200.trans (congrArg some (by kernel_rfl))⟩
 f28:=Tryz.func165.trans (congrArg some (by kernel_rfl))
 f29:=Tryz.func166.trans (congrArg some (by kernel_rfl))
 f46:=⟨Tryz.f218.name,by decide,Tryz.func218.trans (congrArg some (by kernel_rfl))⟩
 f47:=Tryz.func188.trans (congrArg some (by kernel_rfl))
 f48:=Tryz.func189.trans (congrArg some (by kernel_rfl))
 f49:=⟨Tryz.f219.name,by decide,Tryz.func219.trans (congrArg some (by kernel_rfl))⟩
 f50:=⟨Tryz.f220.name,by decide,Tryz.func220.trans (congrArg some (by kernel_rfl))⟩
 f57:=⟨Tryz.f241.name,by decide,Tryz.func241.trans (congrArg some (by kernel_rfl))⟩
 t0:=Tryz.underlying0
 a0:=Tryz.isAgg0
 z0:=Tryz.sizeOf0
 v0:=Tryz.zeroValue0
 t3:=Tryz.underlying3
 a3:=Tryz.isAgg3
 z3:=Tryz.sizeOf3
 v3:=Tryz.zeroValue3
 t4:=Tryz.underlying4
 a4:=Tryz.isAgg4
 z4:=Tryz.sizeOf4
 v4:=Tryz.zeroValue4
 t5:=Tryz.underlying5
 a5:=Tryz.isAgg5
 z5:=Tryz.sizeOf5
 v5:=Tryz.zeroValue5
 t9:=Tryz.underlying9
 a9:=Tryz.isAgg9
 z9:=Tryz.sizeOf9
 v9:=Tryz.zeroValue9
 t22:=Tryz.underlying184
 a22:=Tryz.isAgg184
 z22:=Tryz.sizeOf184
 v22:=Tryz.zeroValue184
 t25:=Tryz.underlying224
 a25:=Tryz.isAgg224
 z25:=Tryz.sizeOf224
 v25:=Tryz.zeroValue224
 t39:=Tryz.underlying215
 a39:=Tryz.isAgg215
 z39:=Tryz.sizeOf215
 v39:=Tryz.zeroValue215
 t45:=Tryz.underlying242
 a45:=Tryz.isAgg242
 z45:=Tryz.sizeOf242
 v45:=Tryz.zeroValue242
 t46:=Tryz.underlying243
 a46:=Tryz.isAgg243
 z46:=Tryz.sizeOf243
 v46:=Tryz.zeroValue243
 t50:=Tryz.underlying164
 a50:=Tryz.isAgg164
 z50:=Tryz.sizeOf164
 v50:=Tryz.zeroValue164
 t53:=Tryz.underlying31
 a53:=Tryz.isAgg31
 z53:=Tryz.sizeOf31
 v53:=Tryz.zeroValue31
 t55:=Tryz.underlying225
 a55:=Tryz.isAgg225
 z55:=Tryz.sizeOf225
 v55:=Tryz.zeroValue225
 t66:=Tryz.underlying270
 a66:=Tryz.isAgg270
 z66:=Tryz.sizeOf270
 v66:=Tryz.zeroValue270
 t70:=Tryz.underlying274
 a70:=Tryz.isAgg274
 z70:=Tryz.sizeOf274
 v70:=Tryz.zeroValue274
 t76:=Tryz.underlying293
 a76:=Tryz.isAgg293
 z76:=Tryz.sizeOf293
 v76:=Tryz.zeroValue293
 t77:=Tryz.underlying193
 a77:=Tryz.isAgg193
 z77:=Tryz.sizeOf193
 v77:=Tryz.zeroValue193}
def Tryz.Qhr:Go.Shelf.Ren:=⟨fun|6=>173|15=>138|14=>202|28=>165|29=>166|20=>221|21=>222|22=>223|23=>224|24=>225|25=>226|26=>227|27=>228|46=>242|47=>188|48=>189|49=>243|50=>244|57=>249|n=>n,fun|22=>228|24=>232|25=>260|3=>3|39=>215|0=>0|53=>31|55=>225|4=>4|46=>243|45=>242|50=>164|5=>5|9=>9|66=>270|70=>274|76=>293|77=>193|n=>n,fun|n=>n⟩
theorem Tryz.Q0c:Go.Proofs.SlLaysF0.n6 Tryz.prog Tryz.Qhr:={
 mixed:=by kernel_rfl
 f6:=⟨Tryz.f173.name,by decide,Tryz.func173.trans (congrArg some (by kernel_rfl))⟩
 f14:=⟨Tryz.f202.name,by decide,Tryz.func202.trans (congrArg some (by kernel_rfl))⟩
 f15:=Tryz.func138.trans (congrArg some (by kernel_rfl))
 f20:=⟨Tryz.f221.name,by decide,Tryz.func221.trans (congrArg some (by kernel_rfl))⟩
 f21:=⟨Tryz.f222.name,by decide,Tryz.func222.trans (congrArg some (by kernel_rfl))⟩
 f22:=⟨Tryz.f223.name,by decide,Tryz.func223.trans (congrArg some (by kernel_rfl))⟩
 f23:=⟨Tryz.f224.name,by decide,Tryz.func224.trans (congrArg some (by kernel_rfl))⟩
 f24:=⟨Tryz.f225.name,by decide,Tryz.func225.trans (congrArg some (by kernel_rfl))⟩
 f25:=⟨Tryz.f226.name,by decide,Tryz.func226.trans (congrArg some (by kernel_rfl))⟩
 f26:=⟨Tryz.f227.name,by decide,Tryz.func227.trans (congrArg some (by kernel_rfl))⟩
 f27:=⟨Tryz.f228.name,by decide,Tryz.func228.trans (congrArg some (by kernel_rfl))⟩
 f28:=Tryz.func165.trans (congrArg some (by kernel_rfl))
 f29:=Tryz.func166.trans (congrArg some (by kernel_rfl))
 f46:=⟨Tryz.f242.name,by decide,Tryz.func242.trans (congrArg some (by kernel_rfl))⟩
 f47:=Tryz.func188.trans (congrArg some (by kernel_rfl))
 f48:=Tryz.func189.trans (congrArg some (by kernel_rfl))
 f49:=⟨Tryz.f243.name,by decide,Tryz.func243.trans (congrArg some (by kernel_rfl))⟩
 f50:=⟨Tryz.f244.name,by decide,Tryz.func244.trans (congrArg some (by kernel_rfl))⟩
 f57:=⟨Tryz.f249.name,by decide,Tryz.func249.trans (congrArg some (by kernel_rfl))⟩
 t0:=Tryz.underlying0
 a0:=Tryz.isAgg0
 z0:=Tryz.sizeOf0
 v0:=Tryz.zeroValue0
 t3:=Tryz.underlying3
 a3:=Tryz.isAgg3
 z3:=Tryz.sizeOf3
 v3:=Tryz.zeroValue3
 t4:=Tryz.underlying4
 a4:=Tryz.isAgg4
 z4:=Tryz.sizeOf4
 v4:=Tryz.zeroValue4
 t5:=Tryz.underlying5
 a5:=Tryz.isAgg5
 z5:=Tryz.sizeOf5
 v5:=Tryz.zeroValue5
 t9:=Tryz.underlying9
 a9:=Tryz.isAgg9
 z9:=Tryz.sizeOf9
 v9:=Tryz.zeroValue9
 t22:=Tryz.underlying228
 a22:=Tryz.isAgg228
 z22:=Tryz.sizeOf228
 v22:=Tryz.zeroValue228
 t25:=Tryz.underlying260
 a25:=Tryz.isAgg260
 z25:=Tryz.sizeOf260
 v25:=Tryz.zeroValue260
 t39:=Tryz.underlying215
 a39:=Tryz.isAgg215
 z39:=Tryz.sizeOf215
 v39:=Tryz.zeroValue215
 t45:=Tryz.underlying242
 a45:=Tryz.isAgg242
 z45:=Tryz.sizeOf242
 v45:=Tryz.zeroValue242
 t46:=Tryz.underlying243
 a46:=Tryz.isAgg243
 z46:=Tryz.sizeOf243
 v46:=Tryz.zeroValue243
 t50:=Tryz.underlying164
 a50:=Tryz.isAgg164
 z50:=Tryz.sizeOf164
 v50:=Tryz.zeroValue164
 t53:=Tryz.underlying31
 a53:=Tryz.isAgg31
 z53:=Tryz.sizeOf31
 v53:=Tryz.zeroValue31
 t55:=Tryz.underlying225
 a55:=Tryz.isAgg225
 z55:=Tryz.sizeOf225
 v55:=Tryz.zeroValue225
 t66:=Tryz.underlying270
 a66:=Tryz.isAgg270
 z66:=Tryz.sizeOf270
 v66:=Tryz.zeroValue270
 t70:=Tryz.underlying274
 a70:=Tryz.isAgg274
 z70:=Tryz.sizeOf274
 v70:=Tryz.zeroValue274
 t76:=Tryz.underlying293
 a76:=Tryz.isAgg293
 z76:=Tryz.sizeOf293
 v76:=Tryz.zeroValue293
 t77:=Tryz.underlying193
 a77:=Tryz.isAgg193
 z77:=Tryz.sizeOf193
 v77:=Tryz.zeroValue193}
def Tryz.Qhq:Go.Shelf.Ren:=⟨fun|6=>177|15=>138|14=>213|28=>165|29=>166|20=>232|21=>233|22=>234|23=>235|24=>236|25=>237|26=>238|27=>239|46=>246|47=>188|48=>189|49=>247|50=>248|57=>250|n=>n,fun|22=>150|24=>152|25=>264|3=>3|39=>215|0=>0|53=>31|55=>225|4=>4|46=>243|45=>242|50=>164|5=>5|9=>9|66=>270|70=>274|76=>293|77=>193|n=>n,fun|n=>n⟩
theorem Tryz.Q0b:Go.Proofs.SlLaysF0.n6 Tryz.prog Tryz.Qhq:={
 mixed:=by kernel_rfl
 f6:=⟨Tryz.f177.name,by decide,Tryz.func177.trans (congrArg some (by kernel_rfl))⟩
 f14:=⟨Tryz.f213.name,by decide,Tryz.func213.trans (congrArg some (by kernel_rfl))⟩
 f15:=Tryz.func138.trans (congrArg some (by kernel_rfl))
 f20:=⟨Tryz.f232.name,by decide,Tryz.func232.trans (congrArg some (by kernel_rfl))⟩
 f21:=⟨Tryz.f233.name,by decide,Tryz.func233.trans (congrArg some (by kernel_rfl))⟩
 f22:=⟨Tryz.f234.name,by decide,Tryz.func234.trans (congrArg some (by kernel_rfl))⟩
 f23:=⟨Tryz.f235.name,by decide,Tryz.func235.trans (congrArg some (by kernel_rfl))⟩
 f24:=⟨Tryz.f236.name,by decide,Tryz.func236.trans (congrArg some (by kernel_rfl))⟩
 f25:=⟨Tryz.f237.name,by decide,Tryz.func237.trans (congrArg some (by kernel_rfl))⟩
 f26:=⟨Tryz.f238.name,by decide,Tryz.func238.trans (congrArg some (by kernel_rfl))⟩
 f27:=⟨Tryz.f239.name,by decide,Tryz.func239.trans (congrArg some (by kernel_rfl))⟩
 f28:=Tryz.func165.trans (congrArg some (by kernel_rfl))
 f29:=Tryz.func166.trans (congrArg some (by kernel_rfl))
 f46:=⟨Tryz.f246.name,by decide,Tryz.func246.trans (congrArg some (by kernel_rfl))⟩
 f47:=Tryz.func188.trans (congrArg some (by kernel_rfl))
 f48:=Tryz.func189.trans (congrArg some (by kernel_rfl))
 f49:=⟨Tryz.f247.name,by decide,Tryz.func247.trans (congrArg some (by kernel_rfl))⟩
 f50:=⟨Tryz.f248.name,by decide,Tryz.func248.trans (congrArg some (by kernel_rfl))⟩
 f57:=⟨Tryz.f250.name,by decide,Tryz.func250.trans (congrArg some (by kernel_rfl))⟩
 t0:=Tryz.underlying0
 a0:=Tryz.isAgg0
 z0:=Tryz.sizeOf0
 v0:=Tryz.zeroValue0
 t3:=Tryz.underlying3
 a3:=Tryz.isAgg3
 z3:=Tryz.sizeOf3
 v3:=Tryz.zeroValue3
 t4:=Tryz.underlying4
 a4:=Tryz.isAgg4
 z4:=Tryz.sizeOf4
 v4:=Tryz.zeroValue4
 t5:=Tryz.underlying5
 a5:=Tryz.isAgg5
 z5:=Tryz.sizeOf5
 v5:=Tryz.zeroValue5
 t9:=Tryz.underlying9
 a9:=Tryz.isAgg9
 z9:=Tryz.sizeOf9
 v9:=Tryz.zeroValue9
 t22:=Tryz.underlying150
 a22:=Tryz.isAgg150
 z22:=Tryz.sizeOf150
 v22:=Tryz.zeroValue150
 t25:=Tryz.underlying264
 a25:=Tryz.isAgg264
 z25:=Tryz.sizeOf264
 v25:=Tryz.zeroValue264
 t39:=Tryz.underlying215
 a39:=Tryz.isAgg215
 z39:=Tryz.sizeOf215
 v39:=Tryz.zeroValue215
 t45:=Tryz.underlying242
 a45:=Tryz.isAgg242
 z45:=Tryz.sizeOf242
 v45:=Tryz.zeroValue242
 t46:=Tryz.underlying243
 a46:=Tryz.isAgg243
 z46:=Tryz.sizeOf243
 v46:=Tryz.zeroValue243
 t50:=Tryz.underlying164
 a50:=Tryz.isAgg164
 z50:=Tryz.sizeOf164
 v50:=Tryz.zeroValue164
 t53:=Tryz.underlying31
 a53:=Tryz.isAgg31
 z53:=Tryz.sizeOf31
 v53:=Tryz.zeroValue31
 t55:=Tryz.underlying225
 a55:=Tryz.isAgg225
 z55:=Tryz.sizeOf225
 v55:=Tryz.zeroValue225
 t66:=Tryz.underlying270
 a66:=Tryz.isAgg270
 z66:=Tryz.sizeOf270
 v66:=Tryz.zeroValue270
 t70:=Tryz.underlying274
 a70:=Tryz.isAgg274
 z70:=Tryz.sizeOf274
 v70:=Tryz.zeroValue274
 t76:=Tryz.underlying293
 a76:=Tryz.isAgg293
 z76:=Tryz.sizeOf293
 v76:=Tryz.zeroValue293
 t77:=Tryz.underlying193
 a77:=Tryz.isAgg193
 z77:=Tryz.sizeOf193
 v77:=Tryz.zeroValue193}
def Tryz.Qi4:Go.Shelf.Ren:=⟨fun|189=>147|125=>138|257=>175|128=>165|129=>166|294=>203|295=>204|296=>205|297=>206|298=>207|299=>208|216=>209|300=>210|301=>211|328=>229|329=>188|330=>189|331=>230|332=>231|215=>152|343=>245|n=>n,fun|28=>66|3=>3|46=>215|0=>0|51=>31|53=>225|4=>4|183=>243|182=>242|131=>164|5=>5|9=>9|218=>270|222=>274|228=>293|229=>193|n=>n,fun|n=>n⟩
theorem Tryz.Q10:Go.Proofs.Lays.n189 Tryz.prog Tryz.Qi4:={
 mixed:=by kernel_rfl
 f125:=Tryz.func138.trans (congrArg some (by kernel_rfl))
 f128:=Tryz.func165.trans (congrArg some (by kernel_rfl))
 f129:=Tryz.func166.trans (congrArg some (by kernel_rfl))
 f189:=Tryz.func147.trans (congrArg some (by kernel_rfl))
 f215:=Tryz.func152.trans (congrArg some (by kernel_rfl))
 f216:=Tryz.func209.trans (congrArg some (by kernel_rfl))
 f257:=Tryz.func175.trans (congrArg some (by kernel_rfl))
 f294:=Tryz.func203.trans (congrArg some (by kernel_rfl))
 f295:=Tryz.func204.trans (congrArg some (by kernel_rfl))
 f296:=Tryz.func205.trans (congrArg some (by kernel_rfl))
 f297:=Tryz.func206.trans (congrArg some (by kernel_rfl))
 f298:=Tryz.func207.trans (congrArg some (by kernel_rfl))
 f299:=Tryz.func208.trans (congrArg some (by kernel_rfl))
 f300:=Tryz.func210.trans (congrArg some (by kernel_rfl))
 f301:=Tryz.func211.trans (congrArg some (by kernel_rfl))
 f328:=Tryz.func229.trans (congrArg some (by kernel_rfl))
 f329:=Tryz.func188.trans (congrArg some (by kernel_rfl))
 f330:=Tryz.func189.trans (congrArg some (by kernel_rfl))
 f331:=Tryz.func230.trans (congrArg some (by kernel_rfl))
 f332:=Tryz.func231.trans (congrArg some (by kernel_rfl))
 f343:=Tryz.func245.trans (congrArg some (by kernel_rfl))
 t0:=Tryz.underlying0
 a0:=Tryz.isAgg0
 z0:=Tryz.sizeOf0
 v0:=Tryz.zeroValue0
 t3:=Tryz.underlying3
 a3:=Tryz.isAgg3
 z3:=Tryz.sizeOf3
 v3:=Tryz.zeroValue3
 t4:=Tryz.underlying4
 a4:=Tryz.isAgg4
 z4:=Tryz.sizeOf4
 v4:=Tryz.zeroValue4
 t5:=Tryz.underlying5
 a5:=Tryz.isAgg5
 z5:=Tryz.sizeOf5
 v5:=Tryz.zeroValue5
 t9:=Tryz.underlying9
 a9:=Tryz.isAgg9
 z9:=Tryz.sizeOf9
 v9:=Tryz.zeroValue9
 t28:=Tryz.underlying66
 a28:=Tryz.isAgg66
 z28:=Tryz.sizeOf66
 v28:=Tryz.zeroValue66
 t46:=Tryz.underlying215
 a46:=Tryz.isAgg215
 z46:=Tryz.sizeOf215
 v46:=Tryz.zeroValue215
 t51:=Tryz.underlying31
 a51:=Tryz.isAgg31
 z51:=Tryz.sizeOf31
 v51:=Tryz.zeroValue31
 t53:=Tryz.underlying225
 a53:=Tryz.isAgg225
 z53:=Tryz.sizeOf225
 v53:=Tryz.zeroValue225
 t131:=Tryz.underlying164
 a131:=Tryz.isAgg164
 z131:=Tryz.sizeOf164
 v131:=Tryz.zeroValue164
 t182:=Tryz.underlying242
 a182:=Tryz.isAgg242
 z182:=Tryz.sizeOf242
 v182:=Tryz.zeroValue242
 t183:=Tryz.underlying243
 a183:=Tryz.isAgg243
 z183:=Tryz.sizeOf243
 v183:=Tryz.zeroValue243
 t218:=Tryz.underlying270
 a218:=Tryz.isAgg270
 z218:=Tryz.sizeOf270
 v218:=Tryz.zeroValue270
 t222:=Tryz.underlying274
 a222:=Tryz.isAgg274
 z222:=Tryz.sizeOf274
 v222:=Tryz.zeroValue274
 t228:=Tryz.underlying293
 a228:=Tryz.isAgg293
 z228:=Tryz.sizeOf293
 v228:=Tryz.zeroValue293
 t229:=Tryz.underlying193
 a229:=Tryz.isAgg193
 z229:=Tryz.sizeOf193
 v229:=Tryz.zeroValue193}
def Tryz.Qi3:Go.Shelf.Ren:=⟨fun|264=>144|n=>n,fun|53=>225|46=>215|n=>n,fun|n=>n⟩
theorem Tryz.Q1z:Go.Proofs.Lays.n264 Tryz.prog Tryz.Qi3:={
 mixed:=by kernel_rfl
 f264:=Tryz.func144.trans (congrArg some (by kernel_rfl))
 t46:=Tryz.underlying215
 a46:=Tryz.isAgg215
 z46:=Tryz.sizeOf215
 v46:=Tryz.zeroValue215
 t53:=Tryz.underlying225
 a53:=Tryz.isAgg225
 z53:=Tryz.sizeOf225
 v53:=Tryz.zeroValue225}
end Go.Proofs
namespace Go.Proofs.YtdackcibfkkniaaGreatDoor
open Go.RowKit
def B5(js:List Jb)(j:Nat):Bs:=((look js j).map (·.ns)).getD 0#16
def Kf(m:Mx)(r:Nat):List Jb:=(List.range 16).filterMap fun i=>m.js.find? fun x=>decide (x.row=r)&&decide (tz x.ns=i)
theorem Xn{m:Mx}(hm:Xk m){r:Nat}{x:Jb}:x∈Kf m r↔x∈m.js∧x.row=r:=by
 simp only[Kf,List.mem_filterMap,List.mem_range]
 constructor
 ·rintro ⟨i,_,hf⟩;have h1:=List.mem_of_find?_eq_some hf;have h2:=List.find?_some hf;rw[Bool.and_eq_true,decide_eq_true_eq]at h2;exact⟨h1,h2.1⟩
 ·rintro ⟨h1,h2⟩;have ht:=Jj (hm.some x h1);refine⟨tz x.ns,Df ht,?_⟩;cases hf:m.js.find? fun y=>decide (y.row=r)&&decide (tz y.ns=tz x.ns) with
  | none=>
   have:=List.find?_eq_none.1 hf x h1;simp[h2]at this
  | some y=>
   have h3:=List.mem_of_find?_eq_some hf;have h4:=List.find?_some hf;rw[Bool.and_eq_true,decide_eq_true_eq,decide_eq_true_eq]at h4;refine congrArg some (Classical.byContradiction fun Uk=>?_);exact hm.dis y h3 x h1 (fun e=>Uk (Dk hm.Yz h3 h1 e)) (h4.1.trans h2.symm) (tz x.ns) (by rw[←h4.2];exact X9.1 (Jj (hm.some y h3))) (X9.1 ht)
theorem M9{m:Mx}{r:Nat}:(Kf m r).Pairwise fun a b=>tz a.ns<tz b.ns:=by
 rw[Kf,List.pairwise_filterMap];refine List.pairwise_lt_range.imp fun h x hx y hy=>?_;have h1:=List.find?_some hx;have h2:=List.find?_some hy;rw[Bool.and_eq_true,decide_eq_true_eq,decide_eq_true_eq]at h1 h2;rw[h1.2,h2.2];exact h
theorem Qlc{m:Mx}{r:Nat}:(Kf m r).Nodup:=M9.imp fun h e=>by rw[e]at h;omega
def Z9(m:Mx)(z:Int):List Nat:=if Kg m z then (Kf m z.toNat).map (·.id) else []
abbrev Q9(l:List Nat):List Value:=l.map fun j:Nat=>Value.int .u32 (j:Int)
def Qmx(js:List Jb)(a b:Nat):Int:=(tz (B5 js a):Int)-tz (B5 js b)
theorem ltR(js:List Jb)(a b:Nat):Go.Proofs.ltOf (Qmx js) a b=decide (tz (B5 js a)<tz (B5 js b)):=by
 rw[Go.Proofs.ltOf];exact decide_eq_decide.2 (by unfold Qmx;omega)
theorem Qx9(js:List Jb):Go.Sort.SWO (Go.Proofs.ltOf (Qmx js)) where
 irrefl:=fun x=>by rw[ltR];exact decide_eq_false (by omega)
 trans:=fun x y z h1 h2=>by rw[ltR]at *;have h1:=of_decide_eq_true h1;have h2:=of_decide_eq_true h2;exact decide_eq_true (by omega)
 ntrans:=fun x y z h1 h2=>by rw[ltR]at *;have h1:=of_decide_eq_false h1;have h2:=of_decide_eq_false h2;exact decide_eq_false (by omega)
theorem Q8t(t2 b mb:Nat)(m:Mx)(tv:SV)(l:List (Int×Value))(hok:Xk m)(hp:l.Perm (m.js.map jbE))(x y:Nat){W0:World}(hW0:H6 W0)(W:World)(Γ:List Assn)(hs:Sat W ([blk t2 63 #[.pointer (some ⟨b,0,none⟩)],blk b 124 (mxC m mb tv).toArray,Qk mb .u32 l,Xa W0]++Γ)) :
  Um Tryz.prog 128 ([.int .u32 (x:Int),.int .u32 (y:Int)]++[.pointer (some ⟨t2,0,none⟩)]) W (.int .i64 (Qmx m.js x y)):=by
 have h2:W.cell? ⟨t2,0,none⟩=some (.pointer (some ⟨b,0,none⟩)):=by rw[(hs.Qwb).cell];rfl
 have D9:=hs.Qh (Ent.drop _ _);have h3:W.cell? ⟨b,0+3,none⟩=some (.map (some mb)):=by rw[(D9.Qwb).cell];rfl
 have Jz:=D9.Qh (Ent.drop _ _);obtain⟨es,clock,h4,h5⟩:=Jz.isMap;have Uq:=Jz.Qh (Ent.drop _ _);have hW:H6 W:=fun i hi=>(Hw.head (Γ:=[]++Γ) (W:=W0)).cell Uq (hW0 i hi);have hg:=fun j=>C2 hok.Yz hp j
 have Ly:∀j:Nat,∃r:Int,(Q1 (j:Int) l).getD (.agg #[.int .i64 0,.int .u16 0])=.agg #[.int .i64 r,bsv (B5 m.js j)]:=fun j=>by
  rw[hg j,B5];cases look m.js j with
  | none=>exact⟨0,rfl⟩
  | some x=>exact⟨_,rfl⟩
 obtain⟨rx,hrx⟩:=Ly x;obtain⟨ry,hry⟩:=Ly y;have t1:=Q4g (B5 m.js x);have t2':=Q4g (B5 m.js y);refine Spec.U8 Tryz.func128 rfl Tryz.ntmps128 rfl ?_;intro w0 Γ';show S _ w0 [(0,.int .u32 (x:Int)),(1,.int .u32 (y:Int)),(2,.pointer (some ⟨t2,0,none⟩))] (Xa W::Γ') _;refine ZS (ZY 5 ?_);refine Zd ([Xa W]) [] [0,1,2,3,4,5,6,8,9,10,11,12,13,14] ?_;refine Zw ef (Fa Eo.h rfl h2) (ZY 2 ?_);refine Zw ef (Fa Eo.h rfl h3) (Zy ?_);refine Zw ef (Qar l (.agg #[.int .i64 rx,bsv (B5 m.js x)]) Tryz.underlying117 Tryz.underlying31 Tryz.Qc8.h rfl rfl rfl h4 h5 hrx.symm) (Zy ?_);refine Zw ef (Fa Eo.h rfl h2) (ZY 2 ?_);refine Zw ef (Fa Eo.h rfl h3) (Zy ?_);refine Zw ef (Qar l (.agg #[.int .i64 ry,bsv (B5 m.js y)]) Tryz.underlying117 Tryz.underlying31 Tryz.Qc8.h rfl rfl rfl h4 h5 hry.symm) (Zy ?_);refine Z1 (i:=7) ef ef ?_;refine  (Zcp Ze (Qk4 (B5 m.js x) hW) ?_);refine Zk [] ?_;refine Z1 (i:=15) ef ef ?_;refine  (Zcp Ze (Qk4 (B5 m.js y) hW) ?_);refine Zk [16,17] ?_;refine Zw ef (Zm ef ef) (Zy ?_);refine ZD (Zy ?_);exact Zf ef Zq (⟨rfl,rfl⟩)
theorem Nx{m:Mx}(hm:Xk m){x:Jb}(hx:x∈m.js):B5 m.js x.id=x.ns:=by rw[B5,Ee hm.Yz hx];rfl
theorem Qho{m:Mx}(hm:Xk m){r:Nat}{ks l':List Nat}(hp:l'.Perm ks)(hk:ks.Perm ((Kf m r).map (·.id)))(hs:l'.Pairwise fun a b=>Go.Proofs.ltOf (Qmx m.js) b a=false):l'=(Kf m r).map (·.id):=by
 have hp2:=hp.trans hk;have Vt:∀j∈l',∃x∈Kf m r,x.id=j:=fun j hj=>List.mem_map.1 (hp2.mem_iff.1 hj)
 have G2:((Kf m r).map (·.id)).Nodup:=List.pairwise_map.2 (M9.imp_of_mem fun {a b} ha hb h e=>by
  rw[Dk hm.Yz ((Xn hm).1 ha).1 ((Xn hm).1 hb).1 e]at h;omega)
 have hnd':l'.Nodup:=hp2.nodup_iff.2 G2
 refine List.Perm.eq_of_pairwise (le:=fun a b=>tz (B5 m.js a)<tz (B5 m.js b)) (fun a b _ _ h1 h2=>by omega) ?_ ?_ hp2
 ·refine(hs.and hnd').imp_of_mem fun {a b} ha hb h=>?_;obtain⟨h1,h2⟩:=h;rw[ltR]at h1;have h1:=of_decide_eq_false h1;obtain⟨x,hx,rfl⟩:=Vt a ha;obtain⟨y,hy,rfl⟩:=Vt b hb;obtain⟨x1,x2⟩:=(Xn hm).1 hx;obtain⟨y1,y2⟩:=(Xn hm).1 hy;rw[Nx hm x1,Nx hm y1]at h1 ⊢;refine Classical.byContradiction fun h3=>?_;have e:tz x.ns=tz y.ns:=by omega
  exact hm.dis x x1 y y1 h2 (x2.trans y2.symm) (tz x.ns) (X9.1 (Jj (hm.some x x1))) (by rw[e];exact X9.1 (Jj (hm.some y y1)))
 ·refine List.pairwise_map.2 (M9.imp_of_mem fun {a b} ha hb h=>?_);rw[Nx hm ((Xn hm).1 ha).1,Nx hm ((Xn hm).1 hb).1];exact h
theorem Qjt{m:Mx}(hm:Xk m)(r:Nat):(m.js.filter fun x=>decide (x.row=r)).Perm (Kf m r):=
 (List.perm_ext_iff_of_nodup ((hm.Yz.imp fun h e=>by rw[e]at h;omega:m.js.Nodup).filter _) Qlc).2 fun x=>by rw[Xn hm,List.mem_filter,decide_eq_true_eq]
theorem Qa1{α β:Type}{f:α→β}{l m:List β}(h:l.Perm m):∀ {js:List α},js.map f=m→∃jl:List α,jl.Perm js∧l=jl.map f:=by
 induction h with
 | nil=>intro js hm;exact⟨[],by rw[List.map_eq_nil_iff.1 hm],rfl⟩
 | cons x _ ih=>
  intro js hm;cases js with
  | nil=>cases hm
  | cons j js=>
   simp only[List.map_cons,List.cons.injEq]at hm;obtain⟨jl,h1,h2⟩:=ih hm.2;exact⟨j::jl,h1.cons _,by rw[List.map_cons,hm.1,h2]⟩
 | swap x y l=>
  intro js hm
  match js,hm with
  | a::b::js,hm=>
   simp only[List.map_cons,List.cons.injEq]at hm;exact⟨b::a::js,.swap _ _ _,by rw[List.map_cons,List.map_cons,hm.1,hm.2.1,hm.2.2]⟩
 | trans _ _ ih1 ih2=>
  intro js hm;obtain⟨jl,h1,h2⟩:=ih2 hm;obtain⟨jl',h3,h4⟩:=ih1 h2.symm;exact⟨jl',h3.trans h1,h4⟩
theorem Dm{α:Type}{l:List α}{i:Nat}{x:α}(h:l[i]?=some x):l.Perm (x::l.eraseIdx i):=by
 induction l generalizing i with
 | nil=>simp at h
 | cons y l ih=>
  cases i with
  | zero=>simp only[List.getElem?_cons_zero,Option.some.injEq]at h;subst h;exact .refl _
  | succ i=>exact((ih (by simpa using h)).cons y).trans (.swap _ _ _)
abbrev Qt9(b2 b mb:Nat)(m:Mx)(tv:SV)(l:List (Int×Value))(W:World):List Assn:=[blk b2 63 #[.pointer (some ⟨b,0,none⟩)],blk b 124 (mxC m mb tv).toArray,Qk mb .u32 l,Xa W]
theorem Qsu(b2 b mb:Nat)(m:Mx)(tv:SV)(l:List (Int×Value))(hok:Xk m)(hp:l.Perm (m.js.map jbE)){W:World}(hW:H6 W)(s:SV)(ks:List Nat)(hl:ks.length<4611686018427387904) :
  Spec Tryz.prog 127 [s.v,.func (.func 128) #[] #[.pointer (some ⟨b2,0,none⟩)]] (own s 31 1 (Q9 ks)::Qt9 b2 b mb m tv l W) fun Γ _ Θ=>∃l':List Nat,l'.Perm ks∧l'.Pairwise (fun a b=>Go.Proofs.ltOf (Qmx m.js) b a=false)∧Θ=own s 31 1 (Q9 l')::blk b2 63 #[.pointer (some ⟨b,0,none⟩)]::blk b 124 (mxC m mb tv).toArray::Qk mb .u32 l::Xa W::Γ:=
 Qkg Tryz.Qnx {Tryz.Qnx with} (fun j:Nat=>Value.int .u32 (j:Int)) (fun _=>rfl) (Qmx m.js) (Qx9 m.js) 128 [.pointer (some ⟨b2,0,none⟩)]
  (enters_of Tryz.func128 (by kernel_rfl) rfl) (Qt9 b2 b mb m tv l W) (fun x y W1 Γ hs=>Q8t b2 b mb m tv l hok hp x y hW W1 Γ hs) 31 s ks hl
theorem Qp3(b:Nat)(m:Mx)(z:Int){W:World}(hW:H6 W):Spec Tryz.prog 85 [.pointer (some ⟨b,0,none⟩),.int .i64 z] [MI b m,Xa W] fun Γ v Θ=>∃sv:SV,v=sv.v∧sv.n=(Z9 m z).length∧Θ=own sv 31 1 (Q9 (Z9 m z))::MI b m::Xa W::Γ:=by
 refine Zbd Tryz.func85 rfl Tryz.ntmps85 fun w0 Γ=>Zsh (ZY 2 (Zp (S.box (cs:=[_]) rfl rfl rfl ?_)));intro b2;refine ZY 7 (Zp (Zcp Ze (Qdl b m z) (ZY 2 ?_)))
 refine Zi ef (fun h1=>?_) (fun h1=>?_)
 ·have hn:Z9 m z=[]:=by rw[Z9,show Kg m z=false by simpa using h1];rfl
  refine ZY 5 ?_;refine S.Qh (Δ:=own SV.nil 31 1 (Q9 (Z9 m z))::MI b m::Xa W::Γ) (by rw[hn];exact Sub.Qh.trans (Ent.Ye _ _)) ?_;exact Zf ef Zq (⟨SV.nil,rfl,by rw[hn];rfl,rfl⟩)
 ·have hrb:Kg m z=true:=by simpa using h1
  obtain⟨r,rfl⟩:∃r:Nat,z=r:=⟨z.toNat,by have:=Vi.1 hrb;omega⟩;have hn:Z9 m r=(Kf m r).map (·.id):=by rw[Z9,if_pos hrb,Int.toNat_natCast]
  refine S.U4 b m fun mb tv l hok hp Fw=>?_;have Zlo:=Qtt m hok;obtain⟨jl0,hj0,hl0⟩:=Qa1 hp rfl;have hll:l.length=m.js.length:=by rw[hp.length_eq,List.length_map]
  refine ZY 3 (S.Qh (Ent.Ye 31 1) (ZY 8 (Zy (Zp (S.range Tryz.underlying117 rfl rfl ?_)))));intro r16;refine ZY 2 ?_;refine Zl (fun k ρ' Γ'=>∃(left:List (Int×Value)) (cur:Option (Int×Value)) (jl dn:List Jb) (sv:SV) (dv:List Value),k=left.length∧left=jl.map jbE∧(dn++jl.filter fun x=>decide (x.row=r)).Perm (m.js.filter fun x=>decide (x.row=r))∧jl.length+dn.length≤m.js.length∧sv.n=dn.length∧dv=Q9 (dn.map (·.id)) ∧   ρ'=[(1,.int .i64 (r:Int)),(2,.pointer (some ⟨b2,0,none⟩)),(5,sv.v),(16,.pointer (some ⟨r16,0,none⟩))]∧Γ'=Kj r16 mb .u32 l left cur::own sv 31 1 dv::blk b2 63 #[.pointer (some ⟨b,0,none⟩)]::blk b 124 (mxC m mb tv).toArray::own tv 119 1 (tks m)::Xa W::Γ) (m:=_) (⟨l,none,jl0,[],SV.nil,[],rfl,hl0,by simpa using hj0.filter _,by rw[hj0.length_eq];simp,rfl,rfl,rfl,rfl⟩) ?_;rintro k ρ' Γ' ⟨left,cur,jl,dn,sv,dv,hk,Jt,D7,hlen,Km,hdv,rfl,rfl⟩;refine ZY 2 ?_
  refine Zp (S.Yh rfl rfl (fun Zf7=>?_) (fun i17 z17 v17 Zcb=>?_))
  ·have hj:jl=[]:=List.map_eq_nil_iff.1 (Jt.symm.trans Zf7);subst hj;rw[List.filter_nil,List.append_nil]at D7;subst hdv;refine S.conv (Kj r16 mb .u32 l left cur) (Ent.Kj _) (ZY 8 (Zy ?_));refine Zp (Zc1 Ze (Qsu b2 b mb m tv l hok hp hW sv (dn.map (·.id)) (by simp;omega)) ?_);rintro v Θ ⟨l',Pz,Gq,rfl⟩;have Xi:=Qho hok (r:=r) Pz ((D7.trans (Qjt hok r)).map _) Gq;have An:sv.n=(Z9 m r).length:=by rw[hn,←Xi,Pz.length_eq,List.length_map,Km]
   rw[Xi,←hn];refine ZY 7 (S.Y7 (b:=b) (m:=m) (mb:=mb) (tv:=tv) rfl rfl rfl hok hp Fw ?_);exact Zf ef Zq (⟨sv,rfl,An,rfl⟩)
  ·obtain⟨x,hx,hxe⟩:∃x,jl[i17]?=some x∧jbE x=(z17,v17):=by
    rw[Jt,List.getElem?_map]at Zcb;exact Option.map_eq_some_iff.1 Zcb
   simp only[jbE,Prod.mk.injEq]at hxe;obtain⟨rfl,rfl⟩:=hxe;have Tb:=Dm hx;have hel:=Tb.length_eq;rw[List.length_cons]at hel;have hle:(left.eraseIdx i17)=(jl.eraseIdx i17).map jbE:=by rw[Jt,X1]
   have Wq:(left.eraseIdx i17).length<k:=by rw[hle,hk,Jt,List.length_map,List.length_map];omega
   refine ZY 8 (Zv (Gl rfl) (ZY 2 (Zp (S.alloc Tryz.Qcp.h rfl ?_))));intro b7;refine Zy (Zp (Zs ef ef (cs':=[_,_]) ef (ZY 8 ?_)))
   refine Zj ef (fun h3=>?_) (fun h3=>?_)
   ·have hxr:x.row=r:=by omega
    have h9:=Tb.filter (fun x=>decide (x.row=r));rw[List.filter_cons_of_pos (by simpa using hxr)]at h9
    have Qxh:((dn++[x])++(jl.eraseIdx i17).filter fun x=>decide (x.row=r)).Perm (m.js.filter fun x=>decide (x.row=r)):=by
     rw[List.append_assoc];exact(List.Perm.append_left dn h9.symm).trans D7
    have hdl:(dn++[x]).length=dn.length+1:=by simp
    have Qgl:dv++[.int .u32 (x.id:Int)]=Q9 ((dn++[x]).map (·.id)):=by rw[hdv];simp
    refine ZY 3 ?_;refine Zp (S.buildSlice (pvs:=[(_,_)]) [_] Tryz.underlying53 Tryz.Jr.h rfl rfl ⟨⟨rfl,rfl⟩,trivial⟩ rfl rfl ?_);intro b28;refine Zp (S.Qu (s:=sv) (1) ([.int .u32 (x.id:Int)]) Tryz.underlying53 Tryz.Jr.h rfl rfl rfl (Qy (b:=b28) rfl (by unfold maxLen;omega)) (by first|rfl|exact Ql _) (⟨by omega,by omega⟩) rfl ?_);intro s2 Jz;refine ZY 2 ?_;first|exact ZX (left.eraseIdx i17).length ⟨left.eraseIdx i17,some ((x.id:Int),jbV x),jl.eraseIdx i17,dn++[x],s2,_,rfl,hle,Qxh,by omega,by omega,Qgl,rfl,rfl⟩ Wq|exact ZX (left.eraseIdx i17).length ⟨left.eraseIdx i17,some ((x.id:Int),jbV x),jl.eraseIdx i17,dn,sv,dv,rfl,hle,Qxh,by omega,Km,hdv,rfl,rfl⟩ Wq
   ·have hxr:¬x.row=r:=by omega
    have h9:=Tb.filter (fun x=>decide (x.row=r));rw[List.filter_cons_of_neg (by simpa using hxr)]at h9;have Qxh:=(List.Perm.append_left dn h9.symm).trans D7;refine Zy ?_;first|exact ZX (left.eraseIdx i17).length ⟨left.eraseIdx i17,some ((x.id:Int),jbV x),jl.eraseIdx i17,dn++[x],s2,_,rfl,hle,Qxh,by omega,by omega,Qgl,rfl,rfl⟩ Wq|exact ZX (left.eraseIdx i17).length ⟨left.eraseIdx i17,some ((x.id:Int),jbV x),jl.eraseIdx i17,dn,sv,dv,rfl,hle,Qxh,by omega,Km,hdv,rfl,rfl⟩ Wq
def atJ(js:List Jb)(r i:Nat):Nat:=((js.find? fun x=>decide (x.row=r)&&x.ns.getLsbD i).map (·.id)).getD 0
def atR(m:Mx)(z y:Int):Nat:=if Kg m z&&V8 m y then atJ m.js z.toNat y.toNat else 0
theorem Qyx{m:Mx}(hm:Xk m){r i:Nat}{x:Jb}(hx:x∈m.js)(h1:x.row=r)(h2:x.ns.getLsbD i=true):atJ m.js r i=x.id:=by
 unfold atJ;cases hf:m.js.find? fun x=>decide (x.row=r)&&x.ns.getLsbD i with
 | none=>
  have:=List.find?_eq_none.1 hf x hx;simp[h1,h2]at this
 | some y=>
  have h3:=List.mem_of_find?_eq_some hf;have h4:=List.find?_some hf;rw[Bool.and_eq_true,decide_eq_true_eq]at h4;refine Classical.byContradiction fun Uk=>?_;exact hm.dis y h3 x hx Uk (h4.1.trans h1.symm) i h4.2 h2
theorem Qyy{js:List Jb}{r i:Nat}(h:∀x∈js,x.row=r→x.ns.getLsbD i=false):atJ js r i=0:=by
 unfold atJ
 rw[List.find?_eq_none.2 fun x hx=>?_]
 ·rfl
 ·by_cases e:x.row=r
  ·simp[h x hx e]
  ·simp[e]
theorem Zc8(b:Nat)(m:Mx)(z y:Int):Spec Tryz.prog 115 [.pointer (some ⟨b,0,none⟩),.int .i64 z,.int .i64 y] [MI b m] fun Γ v Θ=>v=.int .u32 (atR m z y:Nat)∧Θ=MI b m::Γ:=by
 refine Zbd Tryz.func115 rfl Tryz.ntmps115 fun w0 Γ=>Zsh (ZY 8 (Zy (Zp (Zcp Ze (Qdl b m z) (Zy ?_)))))
 refine Zbb 12 ef (fun hg1_3=>?_) (fun hg1_3=>?_)
 ·refine ZY 2 (Zg ef ef ef (Zcp Ze (Cq b m y) (ZY 2 ?_)))
  refine Zi ef (fun h1=>?_) (fun h1=>?_)
  ·have hrr:=Vi.1 hg1_3;have hnn:=Ws.1 h1;obtain⟨r,rfl⟩:∃r:Nat,z=r:=⟨z.toNat,by omega⟩;obtain⟨i,rfl⟩:∃i:Nat,y=i:=⟨y.toNat,by omega⟩;have hat:atR m r i=atJ m.js r i:=by rw[atR,hg1_3,h1];rfl
   refine S.U4 b m fun mb tv l hok hp Fw=>?_;have C1:=hok.Bz;obtain⟨jl0,hj0,hl0⟩:=Qa1 hp rfl;refine ZY 6 (Zp (S.range Tryz.underlying117 rfl rfl ?_));intro r21;refine ZY 2 ?_;refine Zl (fun k ρ' Γ'=>∃(left:List (Int×Value)) (cur:Option (Int×Value)) (jl:List Jb),k=left.length∧left=jl.map jbE∧(∀x∈jl,x∈m.js)∧(∀x∈m.js,x∈jl∨(x.row=r→x.ns.getLsbD i=false)) ∧   ρ'=[(1,.int .i64 (r:Int)),(2,.int .i64 (i:Int)),(21,.pointer (some ⟨r21,0,none⟩))]∧Γ'=Kj r21 mb .u32 l left cur::blk b 124 (mxC m mb tv).toArray::own tv 119 1 (tks m)::Γ) (m:=_) (⟨l,none,jl0,rfl,hl0,fun x hx=>hj0.mem_iff.1 hx,fun x hx=>.inl (hj0.mem_iff.2 hx),rfl,rfl⟩) ?_;rintro k ρ' Γ' ⟨left,cur,jl,hk,Jt,Qgh,hall,rfl,rfl⟩;refine ZY 2 ?_
   refine Zp (S.Yh rfl rfl (fun Zf6=>?_) (fun i22 z22 v22 Zca=>?_))
   ·have hj:jl=[]:=List.map_eq_nil_iff.1 (Jt.symm.trans Zf6);subst hj;have Xi:atR m r i=0:=by rw[hat];exact Qyy fun x hx=>(hall x hx).resolve_left (by simp)
    refine S.conv (Kj r21 mb .u32 l left cur) (Ent.Kj _) (S.Y7 (b:=b) (m:=m) (mb:=mb) (tv:=tv) rfl rfl rfl hok hp Fw (ZY 8 (ZY 2 ?_)));exact Zf ef Zq (⟨by rw[Xi];rfl,rfl⟩)
   ·obtain⟨x,hx,hxe⟩:∃x,jl[i22]?=some x∧jbE x=(z22,v22):=by
     rw[Jt,List.getElem?_map]at Zca;exact Option.map_eq_some_iff.1 Zca
    simp only[jbE,Prod.mk.injEq]at hxe;obtain⟨rfl,rfl⟩:=hxe;have Tb:=Dm hx;have hel:=Tb.length_eq;rw[List.length_cons]at hel;have hle:(left.eraseIdx i22)=(jl.eraseIdx i22).map jbE:=by rw[Jt,X1]
    have Wq:(left.eraseIdx i22).length<k:=by rw[hle,hk,Jt,List.length_map,List.length_map];omega
    have Js:=Qgh x (List.mem_of_getElem? hx);refine ZY 8 (Zv (Gl rfl) (ZY 2 (Zp (S.alloc Tryz.Qcp.h rfl ?_))));intro b8;refine Zy (Zp (Zs ef ef (cs':=[_,_]) ef (ZY 8 ?_)))
    refine Zb 31 ef (fun hg5_4=>?_) (fun hg5_4=>?_)
    ·refine ZY 3 (Zg ef ef ef (Zcp Ze (Qjn x.ns i i rfl (by omega)) (ZY 2 ?_)))
     refine Zi ef (fun h3=>?_) (fun h3=>?_)
     ·have Xi:atR m r i=x.id:=by rw[hat];exact Qyx hok Js (by omega) h3
      refine S.conv (Kj r21 mb .u32 l (left.eraseIdx i22) (some ((x.id:Int),jbV x))) (Ent.Kj _) (S.Y7 (b:=b) (m:=m) (mb:=mb) (tv:=tv) rfl rfl rfl hok hp Fw (ZY 6 ?_));exact Zf ef Zq (⟨by rw[Xi];rfl,rfl⟩)
     ·refine Zy ?_
      have Qjo:∀y∈m.js,y∈jl.eraseIdx i22∨(y.row=r→y.ns.getLsbD i=false):=fun y hy=>by
       rcases hall y hy with h9|h9
       ·rcases List.mem_cons.1 (Tb.mem_iff.1 h9) with e9|h9
        ·exact .inr fun e8=>by rw[e9]at e8 ⊢;first|exact h3|exact absurd e8 (by omega)
        ·exact .inl h9
       ·exact .inr h9
      exact ZX ((left.eraseIdx i22).length) (⟨left.eraseIdx i22,some ((x.id:Int),jbV x),jl.eraseIdx i22,rfl,hle,fun y hy=>Qgh y (Tb.mem_iff.2 (List.mem_cons_of_mem _ hy)),Qjo,rfl,rfl⟩) (Wq)
    ·refine ZY 8 ?_
     have Qjo:∀y∈m.js,y∈jl.eraseIdx i22∨(y.row=r→y.ns.getLsbD i=false):=fun y hy=>by
      rcases hall y hy with h9|h9
      ·rcases List.mem_cons.1 (Tb.mem_iff.1 h9) with e9|h9
       ·exact .inr fun e8=>by rw[e9]at e8 ⊢;first|exact h3|exact absurd e8 (by omega)
       ·exact .inl h9
      ·exact .inr h9
     exact ZX ((left.eraseIdx i22).length) (⟨left.eraseIdx i22,some ((x.id:Int),jbV x),jl.eraseIdx i22,rfl,hle,fun y hy=>Qgh y (Tb.mem_iff.2 (List.mem_cons_of_mem _ hy)),Qjo,rfl,rfl⟩) (Wq)
  ·have Xi:atR m z y=0:=by rw[atR,h1,Bool.and_false];rfl
   refine ZY 6 ?_;exact Zf ef Zq (⟨by rw[Xi];rfl,rfl⟩)
 ·have Xi:atR m z y=0:=by rw[atR,hg1_3];rfl
  refine ZY 8 (ZY 4 ?_);exact Zf ef Zq (⟨by rw[Xi];rfl,rfl⟩)
set_option maxHeartbeats 1000000 in
theorem Qit(mb:Nat)(l:List (Int×Value)):Spec Tryz.prog 98 [.map (some mb)] [Qk mb .u32 l] fun Γ v Θ=>∃c,v=.map (some c)∧Θ=Qk c .u32 l::Qk mb .u32 l::Γ:=by
 refine Zbd Tryz.func98 rfl Tryz.ntmps98 fun w0 Γ=>Zsh (ZY 8 (Zv (Ky Tryz.underlying117 rfl rfl) (Zy (ZF ef (ZY 4 (Zv (Ht (by rw[Tryz.underlying117]) rfl) (Zp (S.clone Tryz.func135 (by kernel_rfl) (by kernel_rfl) (by kernel_rfl) (by kernel_rfl) rfl rfl ?_))))))));intro c;refine Zv (Qux Tryz.underlying117 rfl) (ZY 3 ?_);exact Zf ef Zq (⟨c,rfl,rfl⟩)
theorem Qhu(s:SV)(xs:List Value)(hone:Hf xs=true)(hs:s.n≤1000∧0<s.n):Spec Tryz.prog 99 [s.v] [own s 119 1 xs] fun Γ v Θ=>∃s2:SV,v=s2.v∧s2.n=s.n∧Θ=own s2 119 1 xs::own s 119 1 xs::Γ:=by
 refine Zbd Tryz.func99 rfl Tryz.ntmps99 fun w0 Γ=>Zsh ?_;refine S.Qp s hs.2 fun sb so Q4 Pz Gq Si=>(ZY 8 (ZY 2 ?_))
 refine Zi ef (fun h1=>?_) (fun h1=>?_)
 ·rw[Q4]at h1;cases h1
 ·refine ZY 3 (Zp (S.Fk Tryz.underlying122 Tryz.Qgf.h rfl ?_));intro s5 hs5;refine Zy ?_;refine Zp (S.Qu (s:=s5) (s.n) (xs) Tryz.underlying122 Tryz.Qgf.h rfl rfl rfl (fun w hs=>(Wx.head).L3 (hs.Qh (Ent.drop _ _))) (hone) (⟨by omega,by omega⟩) rfl ?_);intro s2 Jz;rw[List.nil_append];refine ZY 3 ?_;exact Zf ef Zq (⟨s2,rfl,by omega,rfl⟩)
theorem Qz0(m:Mx):Hf (tks m)=true:=List.all_eq_true.2 fun v hv=>by
 obtain⟨r,_,rfl⟩:=List.mem_map.1 hv;rfl
theorem Q9m(b:Nat)(m:Mx):Spec Tryz.prog 60 [.pointer (some ⟨b,0,none⟩)] [MI b m] fun Γ v Θ=>∃c,v=.pointer (some ⟨c,0,none⟩)∧Θ=MI c m::MI b m::Γ:=by
 refine Zbd Tryz.func60 rfl Tryz.ntmps60 fun w0 Γ=>Zsh ?_;refine S.U4 b m fun mb tv l hok hp Fw=>?_;have Sl:=hok.R8;have P2:=hok.R1;refine ZY 8 (ZY 2 (ZF ef (ZY 6 (Zp (S.alloc Tryz.z124.h rfl ?_)))));intro b3;refine Zp (Zs ef ef (cs':=[_,_,_,_,_]) ef (ZY 2 ?_));refine Zd ([blk b 124 (mxC m mb tv).toArray]) [11,13] [0,1,2,3,5,6,7,8] (ZY 8 ?_);refine Z1 (i:=4) ef ef ?_;refine  (Zc1 Ze (Qit mb l) ?_);rintro v Θ ⟨mc,rfl,rfl⟩;refine Zk [] ?_;refine Z1 (i:=9) ef ef ?_;refine  (Zc1 Ze (Qhu tv (tks m) (Qz0 m) ⟨by omega,by omega⟩) ?_);rintro v Θ ⟨s2,rfl,Jz,rfl⟩;refine Zk [10] (Zy ?_);refine Z1 (i:=11) ef ef ?_;refine(S.store (cs':=[_,_,_,_,_]) Eo.h rfl rfl rfl rfl rfl ?_);refine ZL ([blk b 124 (mxC m mb tv).toArray]) [12] (Zy ?_);refine Z1 (i:=13) ef ef ?_;refine(S.store (cs':=[_,_,_,_,_]) Eo.h rfl rfl rfl rfl rfl ?_);refine Zk [] ?_;refine ZD (ZY 5 (S.Y7 (b:=b) (m:=m) (mb:=mb) (tv:=tv) rfl rfl rfl hok hp Fw (S.Y7 (b:=b3) (m:=m) (mb:=mc) (tv:=s2) rfl rfl rfl hok hp (by omega) ?_)));exact Zf ef Zq (⟨b3,rfl,rfl⟩)
def Xj(a:Bs×List Jb)(x:Jb):Bs×List Jb:=if x.ns &&& a.1=0#16 then (a.1 ||| x.ns,a.2++[x]) else a
def Ur(m:Mx)(r:Nat):Nat→Bs×List Jb
 | 0=>(tk m.js r,[])
 | o+1=>if o=r then Ur m r o else (Kf m o).foldl Xj (Ur m r o)
def Yq(m:Mx)(z:Int):List Nat:=if Kg m z then (Ur m z.toNat m.R).2.map (·.id) else []
theorem Na(m:Mx)(r:Nat):(Kf m r).length≤16:=by
 have:=List.length_filterMap_le (fun i=>m.js.find? fun x=>decide (x.row=r)&&decide (tz x.ns=i)) (List.range 16);rw[List.length_range]at this;exact this
theorem Qjq(l:List Jb):∀a:Bs×List Jb,(l.foldl Xj a).2.length≤a.2.length+l.length:=by
 induction l with
 | nil=>intro a;exact Nat.le_refl _
 | cons x l ih=>
  intro a;have h1:=ih (Xj a x)
  have h2:(Xj a x).2.length≤a.2.length+1:=by
   unfold Xj
   split
   ·simp
   ·omega
  rw[List.foldl_cons,List.length_cons];omega
theorem Mf(m:Mx)(r:Nat):∀o,(Ur m r o).2.length≤16*o
 | 0=>Nat.le_refl _
 | o+1=>by
  have h:=Mf m r o;unfold Ur
  split
  ·omega
  ·have h1:=Qjq (Kf m o) (Ur m r o);have h2:=Na m o;omega
theorem Q2a{js:List Jb}{q:Nat}{x:Jb}(h:js[q]?=some x):(Q9 (js.map (·.id)))[q]?=some (.int .u32 (x.id:Int)):=by
 show ((js.map (·.id)).map _)[q]?=_;rw[List.getElem?_map,List.getElem?_map,h];rfl
theorem Q9k(b:Nat)(m:Mx)(z:Int){W:World}(hW:H6 W):Spec Tryz.prog 91 [.pointer (some ⟨b,0,none⟩),.int .i64 z] [MI b m,Xa W] fun Γ v Θ=>∃sv:SV,v=sv.v∧sv.n=(Yq m z).length∧Θ=own sv 31 1 (Q9 (Yq m z))::MI b m::Xa W::Γ:=by
 refine Spec.Qq6 fun hok=>?_;refine Zbd Tryz.func91 rfl Tryz.ntmps91 fun w0 Γ=>Zsh ?_;have Sl:=hok.R8;refine ZY 8 (Zy (Zp (Zcp Ze (Qdl b m z) (ZY 2 ?_))))
 refine Zi ef (fun h1=>?_) (fun h1=>?_)
 ·have hn:Yq m z=[]:=by rw[Yq,show Kg m z=false by simpa using h1];rfl
  refine ZY 5 ?_;refine S.Qh (Δ:=own SV.nil 31 1 (Q9 (Yq m z))::MI b m::Xa W::Γ) (by rw[hn];exact Ent.Ye _ _) ?_;exact Zf ef Zq (⟨SV.nil,rfl,by rw[hn];rfl,rfl⟩)
 ·have hrb:Kg m z=true:=by simpa using h1
  have hrr:=Vi.1 hrb;obtain⟨r,rfl⟩:∃r:Nat,z=r:=⟨z.toNat,by omega⟩;have hn:Yq m r=(Ur m r m.R).2.map (·.id):=by rw[Yq,if_pos hrb,Int.toNat_natCast]
  refine S.U4 b m fun mb tv l _ hp Fw=>?_;refine S.Qp tv (by omega) fun tb tf Pu Pz Gq Si=>(ZY 8 (ZY 4 (Zv (Zx (r) ef (Pu) ef (by omega)) ?_)));refine Zv (Zo (tv) (r) ef (Pu) (G6 (show r<m.R by omega))) (ZY 8 (Zy (S.Y7 (b:=b) (m:=m) (mb:=mb) (tv:=tv) rfl rfl rfl hok hp Fw (S.Qh (Ent.Ye 31 1) (ZY 3 ?_)))));refine Zl (fun k ρ' Γ'=>∃(o:Nat) (tn:Bs) (out:List Jb) (sv:SV) (dv:List Value),k=m.R-o∧o≤m.R∧Ur m r o=(tn,out)∧sv.n=out.length∧dv=Q9 (out.map (·.id)) ∧   ρ'=[(0,.pointer (some ⟨b,0,none⟩)),(1,.int .i64 (r:Int)),(5,sv.v),(6,bsv tn),(25,.int .i64 (m.R:Int)),(26,.int .i64 (o:Int))]∧Γ'=own sv 31 1 dv::MI b m::Xa W::Γ) (m:=_) (⟨0,tk m.js r,[],SV.nil,[],rfl,by omega,rfl,rfl,rfl,rfl,rfl⟩) ?_;rintro k ρ' Γ' ⟨o,tn,out,sv,dv,hk,hoR,hfu,Km,hdv,rfl,rfl⟩;have hol:=Mf m r o;rw[hfu]at hol;simp only at hol;refine ZY 2 ?_
  skip
  refine ZY 3 ?_
  refine Zj ef (fun h2=>?_) (fun h2=>?_)
  ·refine ZY 8 (ZY 7 ?_)
   refine Zj ef (fun h3=>?_) (fun h3=>?_)
   ·have hor:o=r:=by omega
    have Qw8:Ur m r (o+1)=(tn,out):=by rw[Ur,if_pos hor];exact hfu
    refine ZY 2 (Zv (Za ef ef) (ZY 2 ?_));first|exact ZX (k-1) ⟨o+1,tn,out,sv,dv,by omega,by omega,Qw8,Km,hdv,rfl,rfl⟩ (by omega)|exact ZX (k-1) ⟨o+1,tn2,out2,s2,dv2,by omega,by omega,Qw8.trans hfo,Jz,Qgl,rfl,rfl⟩ (by omega)
   ·have hor:¬o=r:=by omega
    have Qw8:Ur m r (o+1)=(Kf m o).foldl Xj (tn,out):=by rw[Ur,if_neg hor,hfu]
    refine ZY 5 (Zp (Zc1 Ze (Qp3 b m o hW) ?_));rintro v Θ ⟨rv,rfl,hrv,rfl⟩;have hro:Z9 m o=(Kf m o).map (·.id):=by rw[Z9,if_pos (Vi.2 (by omega)),Int.toNat_natCast]
    rw[hro]at hrv ⊢;rw[List.length_map]at hrv;have Zkk:=Na m o;refine S.U4 b m fun mb tv l _ hp Fw=>?_;refine S.Yf rv fun Zjr Zfm Zjq=>(ZY 4 ?_);refine Zl (fun k2 ρ' Γ'=>∃(q:Nat) (tn2:Bs) (out2:List Jb) (s2:SV) (dv2:List Value),k2=(Kf m o).length-q∧q≤(Kf m o).length∧((Kf m o).take q).foldl Xj (tn,out)=(tn2,out2)∧s2.n=out2.length∧dv2=Q9 (out2.map (·.id)) ∧   ρ'=[(0,.pointer (some ⟨b,0,none⟩)),(1,.int .i64 (r:Int)),(5,s2.v),(6,bsv tn2),(25,.int .i64 (m.R:Int)),(26,.int .i64 (o:Int)),(34,rv.v),(35,.int .i64 rv.n),(36,.int .i64 (q:Int))] ∧   Γ'=own s2 31 1 dv2::own rv 31 1 (Q9 ((Kf m o).map (·.id)))::blk b 124 (mxC m mb tv).toArray::Qk mb .u32 l::own tv 119 1 (tks m)::Xa W::Γ) (m:=_) (⟨0,tn,out,sv,dv,rfl,by omega,rfl,Km,hdv,rfl,rfl⟩) ?_;rintro k2 ρ' Γ' ⟨q,tn2,out2,s2,dv2,hk2,hq,hfo,Jz,Qgl,rfl,rfl⟩;have hfl:=Qjq ((Kf m o).take q) (tn,out);rw[hfo]at hfl;rw[List.length_take]at hfl;simp only at hfl;refine ZY 5 ?_
    refine Zj ef (fun h4=>?_) (fun h4=>?_)
    ·obtain⟨x,hx⟩:=Yv (show q<(Kf m o).length by omega);have Js:=((Xn hok).1 (List.mem_of_getElem? hx)).1;refine S.Qp rv (by omega) fun rb rf hra _ _ _=>?_;have Ub:Q1 (x.id:Int) l=some (jbV x):=by rw[C2 hok.Yz hp,Ee hok.Yz Js];rfl
     have Wd:((Kf m o).take (q+1)).foldl Xj (tn,out)=Xj (tn2,out2) x:=by rw[List.take_add_one,hx,List.foldl_append,hfo];rfl
     refine ZY 5 (Zv (Zx (q) ef (hra) ef (by omega)) (Zv (Zo (rv) (q) ef (hra) (Q2a hx)) (ZY 8 (Zy ?_))));refine Zv (Qj (jbV x) Tryz.underlying117 Tryz.underlying31 Tryz.Qc8.h rfl rfl rfl (by rw[Ub];rfl)) (Zp (S.alloc Tryz.Qcp.h rfl ?_));intro b10;refine Zp (Zs ef ef (cs':=[_,_]) ef (ZY 6 (Zv (Pd (x.ns) (tn2) rfl rfl (rfl) (rfl)) (ZY 2 ?_))))
     refine Zj ef (fun h5=>?_) (fun h5=>?_)
     ·have hz:x.ns &&& tn2=0#16:=Hj.1 h5;have Sj:Xj (tn2,out2) x=(tn2 ||| x.ns,out2++[x]):=if_pos hz;have Zce:dv2++[.int .u32 (x.id:Int)]=Q9 ((out2++[x]).map (·.id)):=by rw[Qgl];simp
      have Zh4:(out2++[x]).length=out2.length+1:=by simp
      refine ZY 5 (Zv (Qoa (tn2) (x.ns) rfl rfl (rfl) (rfl)) (ZY 5 ?_));refine Zp (S.buildSlice (pvs:=[(_,_)]) [_] Tryz.underlying53 Tryz.Jr.h rfl rfl ⟨⟨rfl,rfl⟩,trivial⟩ rfl rfl ?_);intro b57;refine Zp (S.Qu (s:=s2) (1) ([.int .u32 (x.id:Int)]) Tryz.underlying53 Tryz.Jr.h rfl rfl rfl (Qy (b:=b57) rfl (by unfold maxLen;omega)) (by first|rfl|exact Ql _) (⟨by omega,by omega⟩) rfl ?_);intro s3 Uq;refine ZY 3 (Zv (Za ef ef) (ZY 2 ?_));first|exact ZX (k2-1) ⟨q+1,tn2 ||| x.ns,out2++[x],s3,dv2++[.int .u32 (x.id:Int)],by omega,by omega,Wd.trans Sj,by omega,Zce,rfl,rfl⟩ (by omega)|exact ZX (k2-1) ⟨q+1,tn2,out2,s2,dv2,by omega,by omega,Wd.trans Sj,Jz,Qgl,rfl,rfl⟩ (by omega)
     ·have hz:¬x.ns &&& tn2=0#16:=fun e=>h5 (Hj.2 e);have Sj:Xj (tn2,out2) x=(tn2,out2):=if_neg hz;refine ZY 2 (Zv (Za ef ef) (ZY 2 ?_));first|exact ZX (k2-1) ⟨q+1,tn2 ||| x.ns,out2++[x],s3,dv2++[.int .u32 (x.id:Int)],by omega,by omega,Wd.trans Sj,by omega,Zce,rfl,rfl⟩ (by omega)|exact ZX (k2-1) ⟨q+1,tn2,out2,s2,dv2,by omega,by omega,Wd.trans Sj,Jz,Qgl,rfl,rfl⟩ (by omega)
    ·have hq2:q=(Kf m o).length:=by omega
     rw[hq2,List.take_length]at hfo;refine S.Y7 (b:=b) (m:=m) (mb:=mb) (tv:=tv) rfl rfl rfl hok hp Fw (ZY 2 (Zv (Za ef ef) (ZY 2 ?_)));first|exact ZX (k-1) ⟨o+1,tn,out,sv,dv,by omega,by omega,Qw8,Km,hdv,rfl,rfl⟩ (by omega)|exact ZX (k-1) ⟨o+1,tn2,out2,s2,dv2,by omega,by omega,Qw8.trans hfo,Jz,Qgl,rfl,rfl⟩ (by omega)
  ·have Zfs:o=m.R:=by omega
   have Xi:Yq m r=out.map (·.id):=by rw[hn,←Zfs,hfu]
   rw[hdv,←Xi];refine ZY 7 ?_;exact Zf ef Zq (⟨sv,rfl,by rw[Xi,List.length_map];exact Km,rfl⟩)
theorem Zad{b:Nat}{e:TypeId}{cs:List Value}{m sz:Nat}(hl:cs.length=m*sz)(hm:m≤maxLen):RdS (blk b e cs.toArray) ⟨some ⟨b,0,none⟩,m,m⟩ m sz cs:=fun Γ w hs=>Qy (b:=b) (Γ:=blk b e cs.toArray::Γ) hl hm w hs
abbrev Cd:=Nat×Int
abbrev cdC(x:Cd):List Value:=[.int .u32 (x.1:Int),.int .u8 x.2]
theorem Qgv:∀x,(cdC x).length=2:=fun _=>rfl
def X8(a b:Int):Int:=if a<b then -1 else if b<a then 1 else 0
theorem Cw(x:Int)(W:World):Um Tryz.prog 201 [.int .u8 x] W (.bool false):=by
 refine Zbd Tryz.func201 rfl Tryz.ntmps201 fun w0 Γ=>Zsh (ZY 8 (ZY 4 ?_));exact Zf ef Zq (⟨by simp only[X2];rw[decide_eq_false (fun h=>h rfl)],rfl⟩)
theorem Eg(x:Int)(W:World):Um Tryz.prog 192 [.int .u32 x] W (.bool false):=by
 refine Zbd Tryz.func192 rfl Tryz.ntmps192 fun w0 Γ=>Zsh (ZY 8 (ZY 4 ?_));exact Zf ef Zq (⟨by simp only[X2];rw[decide_eq_false (fun h=>h rfl)],rfl⟩)
theorem Qea(x:Int):Spec Tryz.prog 152 [.int .i64 x] [] fun Γ v Θ=>v=.bool false∧Θ=Γ:=by
 refine Zbd Tryz.func152 rfl Tryz.ntmps152 fun w0 Γ=>Zsh (ZY 8 (ZY 4 ?_));exact Zf ef Zq (⟨by simp only[X2];rw[decide_eq_false (fun h=>h rfl)],rfl⟩)
theorem Ms(x y:Int)(W:World):Um Tryz.prog 170 [.int .u8 x,.int .u8 y] W (.int .i64 (X8 x y)):=by
 refine Zbd Tryz.func170 rfl Tryz.ntmps170 fun w0 Γ=>Zsh (ZY 7 ?_);refine Zp (S.Vs Eo.h (vs:=[_]) ⟨rfl,trivial⟩ (fun w hs=>Cw x w) rfl (ZY 5 ?_));refine Zp (S.Vs Eo.h (vs:=[_]) ⟨rfl,trivial⟩ (fun w hs=>Cw y w) rfl (ZY 7 (ZF ef (ZY 6 (ZF ef (ZY 8 ?_))))))
 refine Zj ef (fun h4=>?_) (fun h4=>?_)
 ·refine ZY 5 ?_;exact Zf ef Zq (⟨by simp only[X2,X8];rw[if_pos (by assumption)],rfl⟩)
 ·refine ZY 8 ?_
  refine Zj ef (fun h5=>?_) (fun h5=>?_)
  ·refine ZY 5 ?_;exact Zf ef Zq (⟨by simp only[X2,X8];rw[if_neg (by assumption),if_pos (by assumption)],rfl⟩)
  ·refine ZY 6 ?_;exact Zf ef Zq (⟨by simp only[X2,X8];rw[if_neg (by assumption),if_neg (by assumption)],rfl⟩)
theorem Fo(x y:Int)(W:World):Um Tryz.prog 171 [.int .u32 x,.int .u32 y] W (.int .i64 (X8 x y)):=by
 refine Zbd Tryz.func171 rfl Tryz.ntmps171 fun w0 Γ=>Zsh (ZY 7 ?_);refine Zp (S.Vs Eo.h (vs:=[_]) ⟨rfl,trivial⟩ (fun w hs=>Eg x w) rfl (ZY 5 ?_));refine Zp (S.Vs Eo.h (vs:=[_]) ⟨rfl,trivial⟩ (fun w hs=>Eg y w) rfl (ZY 7 (ZF ef (ZY 6 (ZF ef (ZY 8 ?_))))))
 refine Zj ef (fun h4=>?_) (fun h4=>?_)
 ·refine ZY 5 ?_;exact Zf ef Zq (⟨by simp only[X2,X8];rw[if_pos (by assumption)],rfl⟩)
 ·refine ZY 8 ?_
  refine Zj ef (fun h5=>?_) (fun h5=>?_)
  ·refine ZY 5 ?_;exact Zf ef Zq (⟨by simp only[X2,X8];rw[if_neg (by assumption),if_pos (by assumption)],rfl⟩)
  ·refine ZY 6 ?_;exact Zf ef Zq (⟨by simp only[X2,X8];rw[if_neg (by assumption),if_neg (by assumption)],rfl⟩)
theorem R5(x y:Int):Spec Tryz.prog 122 [.int .i64 x,.int .i64 y] [] fun Γ v Θ=>v=.int .i64 (X8 x y)∧Θ=Γ:=by
 refine Zbd Tryz.func122 rfl Tryz.ntmps122 fun w0 Γ=>Zsh (ZY 7 (Zp (Zcp Ze (Qea x) (ZY 5 (Zp (Zcp Ze (Qea y) (ZY 7 (ZF ef (ZY 6 (ZF ef (ZY 8 ?_)))))))))))
 refine Zj ef (fun h4=>?_) (fun h4=>?_)
 ·refine ZY 5 ?_;exact Zf ef Zq (⟨by simp only[X2,X8];rw[if_pos (by assumption)],rfl⟩)
 ·refine ZY 8 ?_
  refine Zj ef (fun h5=>?_) (fun h5=>?_)
  ·refine ZY 5 ?_;exact Zf ef Zq (⟨by simp only[X2,X8];rw[if_neg (by assumption),if_pos (by assumption)],rfl⟩)
  ·refine ZY 6 ?_;exact Zf ef Zq (⟨by simp only[X2,X8];rw[if_neg (by assumption),if_neg (by assumption)],rfl⟩)
def orI:List Int→Int
 | []=>0
 | x::l=>if x≠0 then x else orI l
theorem Qzb(s:SV)(l:List Int)(W:World)(hn:s.n=l.length)(h0:Hp W s.v l.length 1 (ints l)):Um Tryz.prog 121 [s.v] W (.int .i64 (orI l)):=by
 have hm0:=M1 h0;unfold maxLen at hm0;refine Zbd Tryz.func121 rfl Tryz.ntmps121 fun w0 Γ=>Zsh (ZY 8 (ZY 8 ?_));refine Zl (fun m ρ' Γ'=>∃k:Nat,m+k=l.length∧orI l=orI (l.drop k)∧ρ'=[(3,.int .i64 0),(6,s.v),(7,.int .i64 s.n),(8,.int .i64 k)]∧Γ'=Xa W::Γ) (m:=_) (⟨0,rfl,rfl,rfl,rfl⟩) ?_;rintro m ρ' Γ' ⟨k,hmk,hor,rfl,rfl⟩;refine ZY 5 ?_
 refine Zj ef (fun h1=>?_) (fun h1=>?_)
 ·obtain⟨x,hx⟩:=Yv (l:=l) (i:=k) (by omega);obtain⟨b,off,hb,Uw⟩:=J5 h0 (by omega)
  have Fz:l.drop k=x::l.drop (k+1):=by
   have Ao:=(List.getElem?_eq_some_iff.1 hx);rw[List.drop_eq_getElem_cons Ao.1,Ao.2]
  refine ZY 5 (Zv (Zx (k) ef (hb) ef (by omega)) ?_);refine Zv (Fa Eo.h rfl (Uw _ _ (by rw[Nat.mul_one,List.getElem?_map,hx];rfl))) ?_;refine ZY 8 ?_
  refine Zj ef (fun h2=>?_) (fun h2=>?_)
  ·refine ZY 6 ?_;exact Zf ef Zq (⟨by simp only[X2];rw[hor,Fz,orI,if_pos (by assumption)],rfl⟩)
  ·refine ZY 2 (Zv (Za ef ef) (ZY 2 ?_));exact ZX (m-1) (⟨k+1,by omega,by rw[hor,Fz,orI,if_neg (by assumption)],rfl,rfl⟩) (by omega)
 ·refine ZY 7 ?_;exact Zf ef Zq (⟨by simp only[X2];rw[hor,List.drop_eq_nil_of_le (by omega),orI],rfl⟩)
theorem Zhd(R:Assn)(s:SV)(l:List Int)(hn:s.n=l.length)(hR:RdS R s s.n 1 (ints l)):Spec Tryz.prog 121 [s.v] [R] fun Γ v Θ=>v=.int .i64 (orI l)∧Θ=R::Γ:=by
 refine Zbd Tryz.func121 rfl Tryz.ntmps121 fun w0 Γ=>Zsh ?_;refine S.Nk hR fun _ hc1 hc2=>(ZY 8 (ZY 8 ?_));refine Zl (fun m ρ' Γ'=>∃k:Nat,m+k=l.length∧orI l=orI (l.drop k)∧ρ'=[(3,.int .i64 0),(6,s.v),(7,.int .i64 s.n),(8,.int .i64 k)]∧Γ'=R::Γ) (m:=_) (⟨0,rfl,rfl,rfl,rfl⟩) ?_;rintro m ρ' Γ' ⟨k,hmk,hor,rfl,rfl⟩;refine ZY 5 ?_
 refine Zj ef (fun h1=>?_) (fun h1=>?_)
 ·obtain⟨x,hx⟩:=Yv (l:=l) (i:=k) (by omega);refine S.F6 hR (by omega) fun sb so Q4=>?_
  have Fz:l.drop k=x::l.drop (k+1):=by
   have Ao:=(List.getElem?_eq_some_iff.1 hx);rw[List.drop_eq_getElem_cons Ao.1,Ao.2]
  refine ZY 5 (Zv (Zx (k) ef (Q4) ef (by omega)) (Zv (Fb hR k Eo.h rfl Q4 (by omega) (by omega) (Cy hx)) (ZY 8 ?_)))
  refine Zj ef (fun h2=>?_) (fun h2=>?_)
  ·refine ZY 6 ?_;exact Zf ef Zq (⟨by simp only[X2];rw[hor,Fz,orI,if_pos (by assumption)],rfl⟩)
  ·refine ZY 2 (Zv (Za ef ef) (ZY 2 ?_));exact ZX (m-1) (⟨k+1,by omega,by rw[hor,Fz,orI,if_neg (by assumption)],rfl,rfl⟩) (by omega)
 ·refine ZY 7 ?_;exact Zf ef Zq (⟨by simp only[X2];rw[hor,List.drop_eq_nil_of_le (by omega),orI],rfl⟩)
def Pf(a b:Cd):Int:=orI [X8 a.2 b.2,X8 (b.1:Int) (a.1:Int)]
def bfC(a b:Cd):Bool:=decide (a.2<b.2∨(a.2=b.2∧b.1<a.1))
theorem ltC(a b:Cd):Go.Proofs.ltOf Pf a b=bfC a b:=by
 show decide (Pf a b<0)=bfC a b;unfold Pf orI orI orI X8 bfC;refine decide_eq_decide.2 ?_;split <;> split <;> (try split) <;> (try split) <;> (try split) <;> omega
theorem Q56:Go.Sort.SWO (Go.Proofs.ltOf Pf) where
 irrefl x:=by rw[ltC];exact decide_eq_false (by omega)
 trans x y z h1 h2:=by
  rw[ltC]at *;simp only[bfC,decide_eq_true_eq]at *;omega
 ntrans x y z h1 h2:=by
  rw[ltC]at *;simp only[bfC,decide_eq_false_iff_not]at *;omega
theorem Bp(x y:Cd)(W:World):Um Tryz.prog 178 [.agg (cdC x).toArray,.agg (cdC y).toArray] W (.int .i64 (Pf x y)):=by
 refine Zbd Tryz.func178 rfl Tryz.ntmps178 fun w0 Γ=>Zsh (ZY 2 (Zp (S.box (cs:=[_,_]) rfl rfl rfl ?_)));intro b2;refine Zp (S.box (cs:=[_,_]) rfl rfl rfl ?_);intro b3;refine ZY 3 ?_;refine Zd ([blk b2 152 (cdC x).toArray,blk b3 152 (cdC y).toArray]) [] [0,1,2,3,5,6,7,8] (ZY 8 ?_);refine Z1 (i:=4) ef ef ?_;refine(S.Vs Eo.h (vs:=[_,_]) ⟨rfl,rfl,trivial⟩ (fun w hs=>Ms x.2 y.2 w) rfl ?_);refine Zk [] ?_;refine Z1 (i:=9) ef ef ?_;refine(S.Vs Eo.h (vs:=[_,_]) ⟨rfl,rfl,trivial⟩ (fun w hs=>Fo (y.1:Int) (x.1:Int) w) rfl ?_);refine Zk [] ?_;refine Z1 (i:=10) ef ef ?_;refine(S.buildSlice (pvs:=[(_,_),(_,_)]) [_,_] Tryz.underlying66 Tryz.D2.h rfl rfl ⟨⟨rfl,rfl⟩,⟨rfl,rfl⟩,trivial⟩ rfl rfl ?_);intro b15;refine Zk [] ?_;refine Z1 (i:=11) ef ef ?_;refine(S.Vs Eo.h (vs:=[_]) ⟨rfl,trivial⟩ (fun w hs=>Qzb ⟨some ⟨b15,0,none⟩,2,2⟩ [X8 x.2 y.2,X8 (y.1:Int) (x.1:Int)] w rfl (Qy (b:=b15) rfl (show 2≤maxLen by unfold maxLen;omega) w hs)) rfl ?_);refine Zk [12] (Zy ?_);refine ZD (Zy ?_);exact Zf ef Zq (⟨rfl,rfl⟩)
theorem Qg3(s:SV)(l:List Cd)(hl:l.length≤1000000):Spec Tryz.prog 177 [s.v,.func (.func 178) #[] #[]] [own s 152 2 (l.flatMap cdC)] fun Γ _ Θ=>
  ∃l':List Cd,l'.Perm l∧l'.Pairwise (fun a b=>bfC b a=false)∧Θ=own s 152 2 (l'.flatMap cdC)::Γ:=by
 have h:=Mq Tryz.Q0b 2 Tryz.isAgg152 Tryz.sizeOf152 cdC Qgv (by omega) (fun x v hv=>by simp only[cdC,List.mem_cons,List.not_mem_nil,or_false]at hv;rcases hv with rfl|rfl <;> rfl) Pf Q56 178 (enters_of Tryz.func178 (by kernel_rfl) rfl) Bp 152 s l (by omega);simp only[ltC]at h;exact h
def Qfb(l:List Cd):List Cd:=l.mergeSort fun a b=>!bfC b a
theorem Ja(l:List Cd):(Qfb l).Perm l:=List.mergeSort_perm _ _
theorem Qz9{l l':List Cd}(G2:l.Pairwise (fun a b=>a.1≠b.1))(hp:l'.Perm l)(hs:l'.Pairwise (fun a b=>bfC b a=false)):l'=Qfb l:=by
 have Jz:(Qfb l).Pairwise (fun a b=>(!bfC b a)=true):=List.pairwise_mergeSort (fun a b c h1 h2=>by
   simp only[bfC,Bool.not_eq_true',decide_eq_false_iff_not]at *;omega) (fun a b=>by
   simp only[bfC,Bool.or_eq_true,Bool.not_eq_true',decide_eq_false_iff_not];omega) l
 refine List.Perm.eq_of_pairwise (le:=fun a b:Cd=>bfC b a=false) (fun a b ha hb h1 h2=>?_) hs (Jz.imp fun h=>by simpa using h) (hp.trans (Ja l).symm);have ha:a∈l:=hp.mem_iff.1 ha;have hb:b∈l:=(Ja l).mem_iff.1 hb;simp only[bfC,decide_eq_false_iff_not]at h1 h2;have e1:a.1=b.1:=by omega
 refine Classical.byContradiction fun Uk=>?_;obtain⟨i,hi,ei⟩:=List.getElem_of_mem ha;obtain⟨j,hj,ej⟩:=List.getElem_of_mem hb;have hp:=List.pairwise_iff_getElem.1 G2
 by_cases e:i=j
 ·subst e;exact Uk (ei.symm.trans ej)
 ·rcases Nat.lt_or_gt_of_ne e with h|h
  ·have h9:=hp i j hi hj h;rw[ei,ej]at h9;exact h9 e1
  ·have h9:=hp j i hj hi h;rw[ei,ej]at h9;exact h9 e1.symm
def upN(m:Mx)(l:List Nat):Nat→Nat
 | 0=>0
 | q+1=>if V9 m (l.getD q 0:Nat) then upN m l q+1 else upN m l q
theorem Qk3(m:Mx)(l:List Nat):∀q,upN m l q≤q
 | 0=>Nat.le_refl _
 | q+1=>by have:=Qk3 m l q;rw[upN];split <;> omega
def Qml(m:Mx)(j:Nat):Nat:=upN m (ofR m j).2.1 (ofR m j).2.1.length
theorem Qop(m:Mx)(j:Nat):(ofR m j).2.1.length≤16:=by
 unfold ofR;cases look m.js j with
 | none=>simp
 | some x=>exact Qf6 x.ns
theorem Q3e(b:Nat)(m:Mx)(j:Nat){W:World}(hW:H6 W):Spec Tryz.prog 151 [.pointer (some ⟨b,0,none⟩),.int .u32 (j:Int)] [MI b m,Xa W] fun Γ v Θ=>v=.int .i64 (Qml m j:Nat)∧Θ=MI b m::Xa W::Γ:=by
 refine Zbd Tryz.func151 rfl Tryz.ntmps151 fun w0 Γ=>Zsh ?_;obtain⟨nl,hnl⟩:∃nl,nl=(ofR m j).2.1:=⟨_,rfl⟩;have hlen:=Qop m j;rw[←hnl]at hlen;refine ZY 8 (ZY 4 (Zp (Zc1 Ze (Q9b b m j hW) ?_)));rintro v Θ ⟨sv,rfl,Km,rfl⟩;rw[←hnl]at Km ⊢;refine ZY 8 (ZY 8 ?_);refine Zl (fun q ρ' Γ'=>∃i:Nat,q=nl.length-i∧i≤nl.length∧ρ'=[(0,.pointer (some ⟨b,0,none⟩)),(5,.int .i64 (upN m nl i:Nat)),(18,sv.v),(19,.int .i64 sv.n),(20,.int .i64 (i:Int))]∧Γ'=own sv 3 1 (nds nl)::MI b m::Xa W::Γ) (m:=_) (⟨0,rfl,by omega,rfl,rfl⟩) ?_;rintro q ρ' Γ' ⟨i,hq,hi,rfl,rfl⟩;have hle:=Qk3 m nl i;refine ZY 5 ?_
 refine Zj ef (fun h1=>?_) (fun h1=>?_)
 ·refine S.Qp sv (by omega) fun sb so Q4 _ _ _=>?_;obtain⟨x,hx⟩:=Yv (show i<nl.length by omega);have Fz:nl.getD i 0=x:=by simp[List.getD,hx]
  refine ZY 5 (Zv (Zx (i) ef (Q4) ef (by omega)) ?_);refine Zv (Zo (sv) (i) ef (Q4) (by rw[List.getElem?_map,hx];rfl)) ?_;refine ZY 6 (Zp (Zcp Ze (Qg4 b m x) (Zy ?_)))
  refine Zi ef (fun h2=>?_) (fun h2=>?_)
  ·have hs:upN m nl (i+1)=upN m nl i+1:=by rw[upN,Fz,if_pos h2]
   refine ZY 2 (Zv (Fc rfl rfl (Y0 (by omega) (by omega))) (ZY 3 (Zv (Za ef ef) (ZY 2 ?_))));first|exact ZX (q-1) ⟨i+1,by omega,by omega,by rw[hs],rfl⟩ (by omega)
  ·have hs:upN m nl (i+1)=upN m nl i:=by rw[upN,Fz,if_neg (by rw[h2];simp)]
   refine ZY 2 (Zv (Za ef ef) (ZY 2 ?_));first|exact ZX (q-1) ⟨i+1,by omega,by omega,by rw[hs],rfl⟩ (by omega)
 ·have Xi:upN m nl i=Qml m j:=by rw[Qml,←hnl,show i=nl.length by omega]
  rw[Xi];refine ZY 7 ?_;exact Zf ef Zq (⟨rfl,rfl⟩)
abbrev Aj(l:List Cd):List Nat:=l.map (·.1)
theorem Q7c(R:Assn)(s:SV)(l:List Cd)(Uj:s.n=l.length)(hl:l.length≤1000)(hR:RdS R s s.n 2 (l.flatMap cdC)):Spec Tryz.prog 124 [s.v] [R] fun Γ v Θ=>∃u:SV,v=u.v∧u.n=l.length∧Θ=own u 31 1 (Q9 (Aj l))::R::Γ:=by
 refine Zbd Tryz.func124 rfl Tryz.ntmps124 fun w0 Γ=>Zsh ?_;refine S.Nk hR fun _ hc1 hc2=>(ZY 8 (ZY 3 (S.Qh (Ent.Ye 31 1) ?_)));show S _ w0 _ (own SV.nil 31 1 (Q9 (Aj (l.take 0)))::_) _;refine ZY 5 ?_;refine Zl (fun q ρ' Γ'=>∃(i:Nat) (u:SV),q=l.length-i∧i≤l.length∧u.n=i∧ρ'=[(3,u.v),(6,s.v),(7,.int .i64 s.n),(8,.int .i64 (i:Int))]∧Γ'=own u 31 1 (Q9 (Aj (l.take i)))::R::Γ) (m:=_) (⟨0,SV.nil,rfl,by omega,rfl,rfl,rfl⟩) ?_;rintro q ρ' Γ' ⟨i,u,hq,hi,hun,rfl,rfl⟩;refine ZY 5 ?_
 refine Zj ef (fun h1=>?_) (fun h1=>?_)
 ·refine S.F6 hR (by omega) fun sb so Q4=>?_;obtain⟨x,hx⟩:=Yv (show i<l.length by omega)
  have hnx:Q9 (Aj (l.take i))++[.int .u32 (x.1:Int)]=Q9 (Aj (l.take (i+1))):=by
   rw[List.take_add_one,hx];simp
  refine ZY 5 (Zv (Zx (i) ef (Q4) ef (by omega)) ?_);refine Zv (Co hR (i*2) (cdC x) Eo.h rfl Q4 (by omega) rfl rfl (Y8 (enc:=cdC) (sz:=2) (fun _=>rfl) hx)) (Zp (S.alloc Tryz.z152.h rfl ?_));intro b5;refine Zp (Zs ef ef (cs':=[_,_]) ef (ZY 5 ?_));refine Zp (S.buildSlice (pvs:=[(_,_)]) [_] Tryz.underlying53 Tryz.Jr.h rfl rfl ⟨⟨rfl,rfl⟩,trivial⟩ rfl rfl ?_);intro b15;refine Zp (S.Qu (s:=u) (1) ([.int .u32 (x.1:Int)]) Tryz.underlying53 Tryz.Jr.h rfl rfl rfl (Qy (b:=b15) rfl (by unfold maxLen;omega)) (by first|rfl|exact Ql _) (⟨by omega,by omega⟩) rfl ?_);intro u2 hu2;refine ZY 3 (Zv (Za ef ef) (ZY 2 ?_));rw[hnx];exact ZX (q-1) (⟨i+1,u2,by omega,by omega,by omega,rfl,rfl⟩) (by omega)
 ·rw[show i=l.length by omega,List.take_length];refine ZY 7 ?_;exact Zf ef Zq (⟨u,rfl,by omega,rfl⟩)
def Tr(l:List Cd):Nat→Int
 | 0=>0
 | i+1=>max (Tr l i) ((l.getD i (0,0)).2+1)
def Ch(l:List Cd):Int:=Tr l l.length
theorem Q4i(R:Assn)(s:SV)(l:List Cd)(Uj:s.n=l.length)(hR:RdS R s s.n 2 (l.flatMap cdC))(ht:∀x∈l,0≤x.2∧x.2≤255):Spec Tryz.prog 123 [s.v] [R] fun Γ v Θ=>v=.int .i64 (Ch l)∧Θ=R::Γ:=by
 refine Zbd Tryz.func123 rfl Tryz.ntmps123 fun w0 Γ=>Zsh ?_;refine S.Nk hR fun _ hc1 hc2=>(ZY 8 (ZY 8 ?_));refine Zl (fun q ρ' Γ'=>∃i:Nat,q=l.length-i∧i≤l.length∧ρ'=[(3,.int .i64 (Tr l i)),(6,s.v),(7,.int .i64 s.n),(8,.int .i64 (i:Int))]∧Γ'=R::Γ) (m:=_) (⟨0,rfl,by omega,rfl,rfl⟩) ?_;rintro q ρ' Γ' ⟨i,hq,hi,rfl,rfl⟩;refine ZY 5 ?_
 refine Zj ef (fun h1=>?_) (fun h1=>?_)
 ·refine S.F6 hR (by omega) fun sb so Q4=>?_;obtain⟨x,hx⟩:=Yv (show i<l.length by omega);have hxr:=ht x (List.mem_of_getElem? hx);have Fz:l.getD i (0,0)=x:=by simp[List.getD,hx]
  have hs:Tr l (i+1)=max (Tr l i) (x.2+1):=by rw[Tr,Fz]
  refine ZY 5 (Zv (Zx (i) ef (Q4) ef (by omega)) ?_);refine Zv (Co hR (i*2) (cdC x) Eo.h rfl Q4 (by omega) rfl rfl (Y8 (enc:=cdC) (sz:=2) (fun _=>rfl) hx)) (Zp (S.alloc Tryz.z152.h rfl ?_));intro b5;refine Zp (Zs ef ef (cs':=[_,_]) ef (ZY 5 ?_));refine Zv (Xw Tryz.it3.h (by rw[Tryz.underlying5];rfl) rfl (Y0 (by omega) (by omega))) (Zv (Fc rfl rfl (Y0 (by omega) (by omega))) ?_);refine Zv (Nl (Tr l (i+1)) rfl rfl (by rw[hs];omega)) (ZY 3 (Zv (Za ef ef) (ZY 2 ?_)));exact ZX (q-1) (⟨i+1,by omega,by omega,rfl,rfl⟩) (by omega)
 ·rw[show i=l.length by omega];refine ZY 7 ?_;exact Zf ef Zq (⟨rfl,rfl⟩)
def Jq(m:Mx)(row tier:Int)(l:List Cd):Nat→List Cd
 | 0=>[]
 | i+1=>if (l.getD i (0,0)).1∈(l.take i).map (·.1) then Jq m row tier l i else
  if ((ofR m (l.getD i (0,0)).1).2.2&&decide ((ofR m (l.getD i (0,0)).1).1=row)&&decide ((l.getD i (0,0)).2<tier))=true then Jq m row tier l i++[l.getD i (0,0)] else Jq m row tier l i
theorem Ef{m:Mx}{row tier:Int}{l:List Cd}{x:Cd}:∀ {i:Nat},i≤l.length→x∈Jq m row tier l i→x∈l.take i
 | 0,_,h=>by cases h
 | i+1,hi,h=>by
  have hx:=List.getElem?_eq_getElem (show i<l.length by omega);have hg:l.getD i (0,0)=l[i]:=by simp[List.getD,hx]
  rw[Jq,hg]at h;rw[List.take_add_one,hx,List.mem_append]
  split at h
  ·exact .inl (Ef (by omega) h)
  ·split at h
   ·rw[List.mem_append]at h
    rcases h with h|h
    ·exact .inl (Ef (by omega) h)
    ·exact .inr (by simpa using h)
   ·exact .inl (Ef (by omega) h)
theorem Pm(m:Mx)(row tier:Int)(l:List Cd):∀i,(Jq m row tier l i).length≤i
 | 0=>Nat.le_refl _
 | i+1=>by
  have:=Pm m row tier l i;rw[Jq]
  split
  ·omega
  ·split
   ·rw[List.length_append,List.length_singleton];omega
   ·omega
theorem Qiy{m:Mx}{row tier:Int}{l:List Cd}:∀ {i:Nat},i≤l.length→(Jq m row tier l i).Pairwise (fun a b=>a.1≠b.1)
 | 0,_=>List.Pairwise.nil
 | i+1,hi=>by
  have ih:=Qiy (m:=m) (row:=row) (tier:=tier) (l:=l) (i:=i) (by omega);rw[Jq]
  split
  ·exact ih
  ·rename_i h
   split
   ·refine List.pairwise_append.2 ⟨ih,List.pairwise_singleton _ _,fun a ha c hc e=>?_⟩;rw[List.mem_singleton]at hc;subst hc;exact h (List.mem_map.2 ⟨a,Ef (by omega) ha,e⟩)
   ·exact ih
def Qbl(m:Mx)(row tier:Int)(l:List Cd):List Cd:=Qfb (Jq m row tier l l.length)
theorem Qv3(b:Nat)(m:Mx)(row tier:Int)(R:Assn)(s:SV)(l:List Cd)(Uj:s.n=l.length)(hl:l.length≤1000)(hR:RdS R s s.n 2 (l.flatMap cdC)){W:World}(hW:H6 W):Spec Tryz.prog 150 [.pointer (some ⟨b,0,none⟩),.int .i64 row,s.v,.int .u8 tier] [MI b m,R,Xa W] fun Γ v Θ=>
  ∃u:SV,v=u.v∧u.n=(Qbl m row tier l).length∧Θ=own u 152 2 ((Qbl m row tier l).flatMap cdC)::MI b m::R::Xa W::Γ:=by
 refine Zbd Tryz.func150 rfl Tryz.ntmps150 fun w0 Γ=>Zsh ?_;refine S.Nk hR fun _ hc1 hc2=>(ZY 6 (Zp (S.makeMap .u32 rfl ?_)));intro b18;refine ZY 4 (S.Qh (Ent.Ye 152 2) ?_);show S _ w0 _ (own SV.nil 152 2 (([]:List Cd).flatMap cdC)::_) _;refine ZY 8 (ZY 2 ?_);refine Zl (fun q ρ' Γ'=>∃(i:Nat) (u:SV) (o:List Cd) (K:List (Int×Value)),q=l.length-i∧i≤l.length∧o=Jq m row tier l i∧u.n=o.length∧(∀z:Nat,Q1 (z:Int) K=if z∈(l.take i).map (·.1) then some (.agg #[]) else none) ∧   ρ'=[(0,.pointer (some ⟨b,0,none⟩)),(1,.int .i64 row),(3,.int .u8 tier),(9,.map (some b18)),(10,u.v),(19,s.v),(20,.int .i64 s.n),(21,.int .i64 (i:Int))]∧Γ'=own u 152 2 (o.flatMap cdC)::Qk b18 .u32 K::MI b m::R::Xa W::Γ) (m:=_) (⟨0,SV.nil,[],[],rfl,by omega,rfl,rfl,fun z=>(by simp;rfl),rfl,rfl⟩) ?_;rintro q ρ' Γ' ⟨i,u,o,K,hq,hi,ho,hun,hK,rfl,rfl⟩;have hol:=Pm m row tier l i;rw[←ho]at hol;refine ZY 5 ?_
 refine Zj ef (fun h1=>?_) (fun h1=>?_)
 ·refine S.F6 hR (by omega) fun sb so Q4=>?_;obtain⟨x,hx⟩:=Yv (show i<l.length by omega);have Fz:l.getD i (0,0)=x:=by simp[List.getD,hx]
  have Hd:(l.take (i+1)).map (·.1)=(l.take i).map (·.1)++[x.1]:=by rw[List.take_add_one,hx];simp
  obtain⟨seen,Qjd⟩:∃seen,seen=decide (x.1∈(l.take i).map (·.1)):=⟨_,rfl⟩;have hKx:=hK x.1;refine ZY 5 (Zv (Zx (i) ef (Q4) ef (by omega)) ?_);refine Zv (Co hR (i*2) (cdC x) Eo.h rfl Q4 (by omega) rfl rfl (Y8 (enc:=cdC) (sz:=2) (fun _=>rfl) hx)) (Zp (S.alloc Tryz.z152.h rfl ?_));intro b12;refine Zp (Zs ef ef (cs':=[_,_]) ef (ZY 7 ?_));refine Zv (E6 (.agg #[]) (seen) Tryz.underlying262 Tryz.underlying31 Tryz.Qtc.h rfl rfl rfl (by rw[hKx,Qjd];by_cases h:x.1∈(l.take i).map (·.1);(rw[if_pos h,decide_eq_true h]);(rw[if_neg h,decide_eq_false h]))) (ZY 3 (Zp (S.alloc Tryz.Qte.h rfl ?_)));intro b13;refine Zp (Zs ef ef (cs':=[]) ef (ZY 6 ?_))
  refine Zi ef (fun h2=>?_) (fun h2=>?_)
  ·have hin:x.1∈(l.take i).map (·.1):=by rw[h2]at Qjd;exact of_decide_eq_true Qjd.symm
   have ho2:o=Jq m row tier l (i+1):=by rw[Jq,Fz,if_pos hin,ho]
   have R0:∀z:Nat,Q1 (z:Int) K=if z∈(l.take (i+1)).map (·.1) then some (.agg #[]) else none:=fun z=>by
    rw[hK,Hd]
    by_cases h:z∈(l.take i).map (·.1)
    ·rw[if_pos h,if_pos (List.mem_append.2 (.inl h))]
    ·rw[if_neg h,if_neg];rw[List.mem_append,List.mem_singleton]
     rintro (h9|rfl)
     ·exact h h9
     ·exact h hin
   refine ZY 2 (Zv (Za ef ef) (ZY 2 ?_));first|(rw[Xg cdC o x];exact ZX (q-1) ⟨i+1,u2,o++[x],Yd (x.1:Int) (.agg #[]) K,by omega,by omega,ho2,by rw[List.length_append,List.length_singleton];omega,R0,rfl,rfl⟩ (by omega))|exact ZX (q-1) ⟨i+1,u,o,Yd (x.1:Int) (.agg #[]) K,by omega,by omega,ho2,hun,R0,rfl,rfl⟩ (by omega)|exact ZX (q-1) ⟨i+1,u,o,K,by omega,by omega,ho2,hun,R0,rfl,rfl⟩ (by omega)
  ·have hin:¬x.1∈(l.take i).map (·.1):=by rw[h2]at Qjd;exact of_decide_eq_false Qjd.symm
   have R0:∀z:Nat,Q1 (z:Int) (Yd (x.1:Int) (.agg #[]) K)=if z∈(l.take (i+1)).map (·.1) then some (.agg #[]) else none:=fun z=>by
    rw[Kc,hK,Hd]
    by_cases h:z∈(l.take i).map (·.1)
    ·rw[if_pos h,if_pos (List.mem_append.2 (.inl h))];split <;> rfl
    ·rw[if_neg h]
     by_cases e:z=x.1
     ·subst e;rw[if_pos rfl,if_pos (List.mem_append.2 (.inr (List.mem_singleton.2 rfl)))]
     ·rw[if_neg (by omega),if_neg];rw[List.mem_append,List.mem_singleton]
      rintro (h9|h9)
      ·exact h h9
      ·exact e h9
   obtain⟨r,nl,ok,hof⟩:∃r nl ok,ofR m x.1=(r,nl,ok):=⟨_,_,_,rfl⟩;have Wd:Jq m row tier l (i+1)=if (ok&&decide (r=row)&&decide (x.2<tier))=true then o++[x] else o:=by rw[Jq,Fz,if_neg hin,hof,ho]
   refine ZY 6 ?_;refine Zv (Q3 (pvs:=[]) [] Tryz.Qte.h Tryz.Zaq.h trivial rfl) (Zp (S.mapUpdate Tryz.underlying262 Tryz.underlying31 rfl rfl rfl rfl (ZY 6 (Zp (Zc1 Ze (Q9b b m x.1 hW) ?_)))));rintro v Θ ⟨sv,rfl,Km,rfl⟩;rw[hof]at Km ⊢;simp only at Km ⊢;refine ZY 8 (ZY 4 ?_)
   refine Zbb 46 ef (fun hg10_1=>?_) (fun hg10_1=>?_)
   ·refine ZY 5 ?_
    refine Zb 51 ef (fun hg10_6=>?_) (fun hg10_6=>?_)
    ·refine ZY 6 ?_
     refine Zj ef (fun h3=>?_) (fun h3=>?_)
     ·have ho2:o++[x]=Jq m row tier l (i+1):=by rw[Wd,hg10_1,decide_eq_true hg10_6,decide_eq_true h3];rfl
      refine ZY 3 ?_;refine Zp (S.buildSlice (pvs:=[(_,_)]) [_,_] Tryz.underlying150 Tryz.Pr.h rfl rfl ⟨⟨rfl,rfl⟩,trivial⟩ rfl rfl ?_);intro b59;refine Zp (S.Qu (s:=u) (1) (cdC x) Tryz.underlying150 Tryz.Pr.h rfl rfl rfl (Qy (b:=b59) rfl (by unfold maxLen;omega)) (by first|rfl|exact Ql _) (⟨by omega,by omega⟩) rfl ?_);intro u2 hu2;refine ZY 3 (Zv (Za ef ef) (ZY 2 ?_));first|(rw[Xg cdC o x];exact ZX (q-1) ⟨i+1,u2,o++[x],Yd (x.1:Int) (.agg #[]) K,by omega,by omega,ho2,by rw[List.length_append,List.length_singleton];omega,R0,rfl,rfl⟩ (by omega))|exact ZX (q-1) ⟨i+1,u,o,Yd (x.1:Int) (.agg #[]) K,by omega,by omega,ho2,hun,R0,rfl,rfl⟩ (by omega)|exact ZX (q-1) ⟨i+1,u,o,K,by omega,by omega,ho2,hun,R0,rfl,rfl⟩ (by omega)
     ·have ho2:o=Jq m row tier l (i+1):=by rw[Wd,hg10_1,decide_eq_true hg10_6,decide_eq_false h3];rfl
      refine ZY 2 (Zv (Za ef ef) (ZY 2 ?_));first|(rw[Xg cdC o x];exact ZX (q-1) ⟨i+1,u2,o++[x],Yd (x.1:Int) (.agg #[]) K,by omega,by omega,ho2,by rw[List.length_append,List.length_singleton];omega,R0,rfl,rfl⟩ (by omega))|exact ZX (q-1) ⟨i+1,u,o,Yd (x.1:Int) (.agg #[]) K,by omega,by omega,ho2,hun,R0,rfl,rfl⟩ (by omega)|exact ZX (q-1) ⟨i+1,u,o,K,by omega,by omega,ho2,hun,R0,rfl,rfl⟩ (by omega)
    ·have ho2:o=Jq m row tier l (i+1):=by rw[Wd,hg10_1,decide_eq_false hg10_6];rfl
     refine ZY 8 (Zy (Zv (Za ef ef) (ZY 2 ?_)));first|(rw[Xg cdC o x];exact ZX (q-1) ⟨i+1,u2,o++[x],Yd (x.1:Int) (.agg #[]) K,by omega,by omega,ho2,by rw[List.length_append,List.length_singleton];omega,R0,rfl,rfl⟩ (by omega))|exact ZX (q-1) ⟨i+1,u,o,Yd (x.1:Int) (.agg #[]) K,by omega,by omega,ho2,hun,R0,rfl,rfl⟩ (by omega)|exact ZX (q-1) ⟨i+1,u,o,K,by omega,by omega,ho2,hun,R0,rfl,rfl⟩ (by omega)
   ·have ho2:o=Jq m row tier l (i+1):=by rw[Wd,hg10_1];rfl
    refine ZY 8 (ZY 6 (Zv (Za ef ef) (ZY 2 ?_)));first|(rw[Xg cdC o x];exact ZX (q-1) ⟨i+1,u2,o++[x],Yd (x.1:Int) (.agg #[]) K,by omega,by omega,ho2,by rw[List.length_append,List.length_singleton];omega,R0,rfl,rfl⟩ (by omega))|exact ZX (q-1) ⟨i+1,u,o,Yd (x.1:Int) (.agg #[]) K,by omega,by omega,ho2,hun,R0,rfl,rfl⟩ (by omega)|exact ZX (q-1) ⟨i+1,u,o,K,by omega,by omega,ho2,hun,R0,rfl,rfl⟩ (by omega)
 ·have hil:i=l.length:=by omega
  refine ZY 4 (Zp (Zc1 Ze (Qg3 u o (by omega)) ?_));rintro v Θ ⟨l',hp,hps,rfl⟩;have hl':l'=Qbl m row tier l:=by rw[Qbl,←hil,←ho];exact Qz9 (by rw[ho];exact Qiy (by omega)) hp hps
  have hlen:=hp.length_eq;rw[hl']at hlen ⊢;refine ZY 7 ?_;exact Zf ef Zq (⟨u,rfl,by omega,rfl⟩)
def C0(m:Mx)(al:List Cd)(h0:Nat):Nat→Nat
 | 0=>h0
 | i+1=>C0 m al h0 i+Qml m (al.getD i (0,0)).1
theorem Qpo(m:Mx)(j:Nat):Qml m j≤16:=by
 have h1:=Qk3 m (ofR m j).2.1 (ofR m j).2.1.length;have h2:=Qop m j;unfold Qml;omega
theorem Qei{m:Mx}{al:List Cd}{h0:Nat}(h:h0≤16):∀i,C0 m al h0 i≤16+16*i
 | 0=>h
 | i+1=>by
  have h1:=Qei (m:=m) (al:=al) h i;have h2:=Qpo m (al.getD i (0,0)).1;rw[C0];omega
def Cg(m:Mx)(al:List Cd)(h0:Nat)(k:Int):Nat→Option Nat
 | 0=>none
 | i+1=>match Cg m al h0 k i with
  | some r=>some r
  | none=>if k≤(C0 m al h0 i:Nat) then some i else none
theorem Tp{m:Mx}{al:List Cd}{h0:Nat}{k:Int}{r:Nat}:∀ {p i:Nat},Cg m al h0 k i=some r→i≤p→Cg m al h0 k p=some r
 | 0,i,h,hp=>by rwa [show i=0 by omega]at h
 | p+1,i,h,hp=>by
  by_cases e:i=p+1
  ·rwa [e]at h
  ·rw[Cg,Tp h (by omega)]
def ofV(m:Mx)(row tier k:Int)(l:List Cd):List Cd×Bool:=
 if k<1∨row<0∨(m.R:Int)≤row then ([],false)
 else match Cg m (Qbl m row tier l) (Em m row) k ((Qbl m row tier l).length+1) with
  | some i=>((Qbl m row tier l).take i,true)
  | none=>([],false)
theorem Qxt(m:Mx)(z:Int):Em m z≤16:=by
 unfold Em
 split
 ·exact Qf6 _
 ·omega
theorem Qbk(m:Mx)(row tier:Int)(l:List Cd):(Qbl m row tier l).length≤l.length:=by
 rw[Qbl,(Ja _).length_eq];exact Pm m row tier l _
theorem Bu{α:Type}{enc:α→List Value}{sz:Nat}(he:∀x,(enc x).length=sz)(os:List α)(k:Nat):(os.flatMap enc).take (k*sz)=(os.take k).flatMap enc:=by
 induction os generalizing k with
 | nil=>simp
 | cons x l ih=>
  cases k with
  | zero=>simp
  | succ k=>
   rw[List.flatMap_cons,List.take_succ_cons,List.flatMap_cons,List.take_append,he,List.take_of_length_le (by rw[he,Nat.succ_mul];omega),show (k+1)*sz-sz=k*sz by rw[Nat.succ_mul];omega,ih]
set_option maxHeartbeats 1000000 in
theorem Zeu(b:Nat)(m:Mx)(row tier k:Int)(R:Assn)(s:SV)(l:List Cd)(Uj:s.n=l.length)(hl:l.length≤1000)(hR:RdS R s s.n 2 (l.flatMap cdC)){W:World}(hW:H6 W):Spec Tryz.prog 120 [.pointer (some ⟨b,0,none⟩),.int .i64 row,s.v,.int .u8 tier,.int .i64 k] [MI b m,R,Xa W] fun Γ v Θ=>
  ∃u:SV,v=.tuple #[u.v,.bool (ofV m row tier k l).2]∧u.n=(ofV m row tier k l).1.length∧Θ=own u 152 2 ((ofV m row tier k l).1.flatMap cdC)::MI b m::R::Xa W::Γ:=by
 refine Zbd Tryz.func120 rfl Tryz.ntmps120 fun w0 Γ=>Zsh ?_;obtain⟨al,hal⟩:∃al,al=Qbl m row tier l:=⟨_,rfl⟩;have hall:=Qbk m row tier l;rw[←hal]at hall;have hfr:=Qxt m row;refine ZY 8 (Zy (Zp (Zcp Ze (Qnd b m) (ZY 8 (ZY 3 ?_)))))
 refine Zb 24 ef (fun hg2_2=>?_) (fun hg2_2=>?_)
 ·have Xi:ofV m row tier k l=([],false):=by rw[ofV,if_pos (.inl hg2_2)]
  refine ZY 8 (ZY 8 (S.Qh (Ent.Ye 152 2) ?_));show S _ w0 _ (own SV.nil 152 2 (([]:List Cd).flatMap cdC)::_) _;exact Zf ef Zq (⟨SV.nil,by rw[Xi];rfl,by rw[Xi];rfl,by rw[Xi]⟩)
 ·refine ZY 4 ?_
  refine Zb 28 ef (fun hg2_6=>?_) (fun hg2_6=>?_)
  ·have Xi:ofV m row tier k l=([],false):=by rw[ofV,if_pos (.inr (.inl hg2_6))]
   refine ZY 8 (ZY 4 (S.Qh (Ent.Ye 152 2) ?_));show S _ w0 _ (own SV.nil 152 2 (([]:List Cd).flatMap cdC)::_) _;exact Zf ef Zq (⟨SV.nil,by rw[Xi];rfl,by rw[Xi];rfl,by rw[Xi]⟩)
  ·refine ZY 5 ?_
   refine Zj ef (fun h1=>?_) (fun h1=>?_)
   ·have Xi:ofV m row tier k l=([],false):=by rw[ofV,if_pos (.inr (.inr (by omega)))]
    refine ZY 6 (S.Qh (Ent.Ye 152 2) ?_);show S _ w0 _ (own SV.nil 152 2 (([]:List Cd).flatMap cdC)::_) _;exact Zf ef Zq (⟨SV.nil,by rw[Xi];rfl,by rw[Xi];rfl,by rw[Xi]⟩)
   ·have hof:ofV m row tier k l=match Cg m al (Em m row) k (al.length+1) with|some i=>(al.take i,true)|none=>([],false):=by rw[ofV,if_neg (by omega),←hal]
    refine ZY 5 (Zp (Zcp Ze (Q9i b m row) (ZY 8 (Zp (Zc1 Ze (Qv3 b m row tier R s l Uj hl hR hW) ?_)))));rintro v Θ ⟨u,rfl,hun,rfl⟩;rw[←hal]at hun ⊢;refine S.Yf u fun Zjh Zjg Zjf=>(ZY 7 ?_);refine Zl (fun q ρ' Γ'=>∃i:Nat,q=al.length-i∧i≤al.length∧Cg m al (Em m row) k i=none∧ρ'=[(0,.pointer (some ⟨b,0,none⟩)),(4,.int .i64 k),(14,.int .i64 (C0 m al (Em m row) i:Nat)),(15,u.v),(16,.int .i64 (i:Int))]∧Γ'=own u 152 2 (al.flatMap cdC)::MI b m::R::Xa W::Γ) (m:=_) (⟨0,rfl,by omega,rfl,rfl,rfl⟩) ?_;rintro q ρ' Γ' ⟨i,hq,hi,Vb,rfl,rfl⟩;have hle:=Qei (m:=m) (al:=al) hfr i;refine ZY 8 (Zy ?_)
    refine Zj ef (fun h2=>?_) (fun h2=>?_)
    ·have hv:Cg m al (Em m row) k (i+1)=some i:=by rw[Cg,Vb];exact if_pos (by omega)
     have Xi:ofV m row tier k l=(al.take i,true):=by rw[hof,Tp hv (by omega)]
     refine ZY 4 (Zv (Pa (i) Eo.h rfl rfl rfl (by omega)) (ZY 4 (S.conv (own u 152 2 (al.flatMap cdC)) (Ent.Qfw u 152 2 _ (k:=i) (by omega) _) ?_)));rw[Bu Qgv al i];exact Zf ef Zq (⟨⟨u.a,i,u.c⟩,by rw[Xi];rfl,by rw[Xi];show i=(al.take i).length;rw[List.length_take];omega,by rw[Xi]⟩)
    ·have hv:Cg m al (Em m row) k (i+1)=none:=by rw[Cg,Vb];exact if_neg (by omega)
     refine ZY 8 (Zy ?_)
     refine Zj ef (fun h3=>?_) (fun h3=>?_)
     ·have Xi:ofV m row tier k l=([],false):=by rw[hof,show al.length+1=i+1 by omega,hv]
      refine ZY 6 (S.Qh (Ent.Ye 152 2) ?_);show S _ w0 _ (own SV.nil 152 2 (([]:List Cd).flatMap cdC)::_) _;exact Zf ef Zq (⟨SV.nil,by rw[Xi];rfl,by rw[Xi];rfl,by rw[Xi]⟩)
     ·refine S.Qp u (by omega) fun ub uo hua _ _ _=>?_;obtain⟨x,hx⟩:=Yv (show i<al.length by omega);have Fz:al.getD i (0,0)=x:=by simp[List.getD,hx]
      have hs:C0 m al (Em m row) (i+1)=C0 m al (Em m row) i+Qml m x.1:=by rw[C0,Fz]
      have hgl:=Qpo m x.1;refine ZY 6 (Zv (Zx (i) ef (hua) ef (by omega)) (Zy (Zv (Zo (u) (i*2+0) ef (hua) (flat_get (enc:=cdC) (sz:=2) (k:=0) (v:=.int .u32 (x.1:Int)) Qgv hx rfl)) (Zp (Zcp Ze (Q3e b m x.1 hW) (Zv (Fc rfl rfl (Y0 (by omega) (by omega))) (ZY 4 (Zv (Fc rfl rfl (Y0 (by omega) (by omega))) (ZY 2 ?_)))))))));exact ZX (q-1) (⟨i+1,by omega,by omega,hv,by rw[hs],rfl⟩) (by omega)
def Qx8(v w:List Cd):Int:=orI [X8 (v.length:Int) (w.length:Int),X8 (Ch v) (Ch w)]
def Qcg(m:Mx)(tier k:Int)(l:List Cd):Nat→List Cd×Nat×Bool
 | 0=>([],0,false)
 | i+1=>if ((ofV m (i:Nat) tier k l).2&&(!(Qcg m tier k l i).2.2 || decide (Qx8 (ofV m (i:Nat) tier k l).1 (Qcg m tier k l i).1<0)))=true then ((ofV m (i:Nat) tier k l).1,i,true) else Qcg m tier k l i
def Lk(m:Mx)(tier k:Int)(l:List Cd):List Cd×Nat×Bool:=Qcg m tier k l m.R
theorem Qv4{m:Mx}{row tier:Int}{l:List Cd}{x:Cd}(h:x∈Qbl m row tier l):x∈l:=by
 have h1:=(Ja _).mem_iff.1 h;exact List.mem_of_mem_take (Ef (Nat.le_refl _) h1)
theorem Qoo{m:Mx}{row tier k:Int}{l:List Cd}{x:Cd}(h:x∈(ofV m row tier k l).1):x∈l:=by
 unfold ofV at h
 split at h
 ·cases h
 ·split at h
  ·exact Qv4 (List.mem_of_mem_take h)
  ·cases h
theorem Q1h(m:Mx)(row tier k:Int)(l:List Cd):(ofV m row tier k l).1.length≤l.length:=by
 have:=Qbk m row tier l;unfold ofV
 split
 ·simp
 ·split
  ·simp only[List.length_take];omega
  ·simp
set_option maxHeartbeats 1000000 in
theorem Qkm(b:Nat)(m:Mx)(tier k:Int)(R:Assn)(s:SV)(l:List Cd)(Uj:s.n=l.length)(hl:l.length≤1000)(ht:∀x∈l,0≤x.2∧x.2≤255)(hR:RdS R s s.n 2 (l.flatMap cdC)){W:World}(hW:H6 W):Spec Tryz.prog 82 [.pointer (some ⟨b,0,none⟩),s.v,.int .u8 tier,.int .i64 k] [MI b m,R,Xa W] fun Γ v Θ=>
  ∃u:SV,v=.tuple #[.agg #[.int .i64 ((Lk m tier k l).2.1:Nat),u.v],.bool (Lk m tier k l).2.2]∧u.n=(Lk m tier k l).1.length∧Θ=own u 31 1 (Q9 (Aj (Lk m tier k l).1))::MI b m::R::Xa W::Γ:=by
 refine Spec.Qq6 fun hok=>?_;refine Zbd Tryz.func82 rfl Tryz.ntmps82 fun w0 Γ=>Zsh ?_;have Sl:=hok.R8;refine ZY 2 (Zp (S.alloc Tryz.z154.h rfl ?_));intro b8;refine ZY 8 (ZY 6 (Zp (Zcp Ze (Qnd b m) (ZY 8 (Zy (S.Qh (Ent.Ye 152 2) ?_))))));show S _ w0 _ (own SV.nil 152 2 (([]:List Cd).flatMap cdC)::_) _;refine ZY 4 ?_;refine Zl (fun q ρ' Γ'=>∃(i:Nat) (bu:SV) (best:List Cd) (row:Nat) (found:Bool),q=m.R-i∧i≤m.R∧Qcg m tier k l i=(best,row,found)∧bu.n=best.length∧best.length≤1000∧(∀x∈best,x∈l) ∧   ρ'=[(0,.pointer (some ⟨b,0,none⟩)),(1,s.v),(2,.int .u8 tier),(3,.int .i64 k),(8,.pointer (some ⟨b8,0,none⟩)),(10,bu.v),(11,.int .i64 (row:Int)),(12,.bool found),(23,.int .i64 (m.R:Int)),(24,.int .i64 (i:Int))] ∧   Γ'=own bu 152 2 (best.flatMap cdC)::blk b8 154 #[.int .i64 0,.slice none 0 0]::MI b m::R::Xa W::Γ) (m:=_) (⟨0,SV.nil,[],0,false,rfl,by omega,rfl,rfl,by simp,fun _ h=>(by cases h),rfl,rfl⟩) ?_;rintro q ρ' Γ' ⟨i,bu,best,row,found,hq,hi,hch,hbu,hbl,hbm,rfl,rfl⟩;obtain⟨vl,ok,hv⟩:∃vl ok,ofV m (i:Nat) tier k l=(vl,ok):=⟨_,_,rfl⟩;have hvl:=Q1h m (i:Nat) tier k l;have hvm:∀x∈vl,x∈l:=fun x hx=>Qoo (m:=m) (row:=(i:Nat)) (tier:=tier) (k:=k) (by rw[hv];exact hx);rw[hv]at hvl;have hvl:vl.length≤l.length:=hvl;obtain⟨c,hc⟩:∃c,c=(ok&&(!found || decide (Qx8 vl best<0))):=⟨_,rfl⟩;have Wd:Qcg m tier k l (i+1)=if c=true then (vl,i,true) else (best,row,found):=by rw[Qcg,hch,hv,hc]
 refine ZY 5 ?_
 refine Zj ef (fun h1=>?_) (fun h1=>?_)
 ·refine ZY 8 (ZY 7 (Zp (Zc1 Ze (Zeu b m (i:Nat) tier k R s l Uj hl hR hW) ?_)));rintro v Θ ⟨u,rfl,hun,rfl⟩;rw[hv]at hun ⊢;simp only at hun ⊢;refine ZY 7 ?_
  refine Zc (fun ρ' Γ'=>ρ'=[(0,.pointer (some ⟨b,0,none⟩)),(1,s.v),(2,.int .u8 tier),(3,.int .i64 k),(8,.pointer (some ⟨b8,0,none⟩)),(10,bu.v),(11,.int .i64 (row:Int)),(12,.bool found),(15,.int .i64 (i:Int)),(16,u.v),(23,.int .i64 (m.R:Int)),(24,.int .i64 (i:Int)),(55,.bool c)] ∧   Γ'=own u 152 2 (vl.flatMap cdC)::own bu 152 2 (best.flatMap cdC)::blk b8 154 #[.int .i64 0,.slice none 0 0]::MI b m::R::Xa W::Γ) ?_ ?_
  ·refine ZY 3 ?_
   refine Zbb 37 ef (fun hg8_1=>?_) (fun hg8_1=>?_)
   ·refine ZY 3 ?_
    refine Zbb 40 ef (fun hg8_4=>?_) (fun hg8_4=>?_)
    ·refine ZY 8 (ZY 8 ?_);first|(have e:c=decide (orI [X8 u.n bu.n,X8 (Ch vl) (Ch best)]<0):=(by rw[hc,hg8_1,hg8_4,Qx8,hun,hbu];rfl) ;rw[e] ;exact S.meet ⟨rfl,rfl⟩ ⟨rfl,rfl,rfl,rfl,rfl,rfl,rfl,rfl,rfl,rfl,rfl,rfl,rfl,trivial⟩ Sub.Qh)|(have e:c=true:=(by rw[hc,hg8_1,hg8_4];rfl) ;rw[e] ;exact S.meet ⟨rfl,rfl⟩ ⟨rfl,rfl,rfl,rfl,rfl,rfl,rfl,rfl,rfl,rfl,rfl,rfl,rfl,trivial⟩ Sub.Qh)|(have e:c=false:=(by rw[hc,hg8_1];rfl) ;rw[e] ;exact S.meet ⟨rfl,rfl⟩ ⟨rfl,rfl,rfl,rfl,rfl,rfl,rfl,rfl,rfl,rfl,rfl,rfl,rfl,trivial⟩ Sub.Qh)
    ·refine ZY 4 (Zg ef ef ef (Zcp Ze (R5 u.n bu.n) (Zy ?_)));refine Zg ef ef ef (Zcp Ze (Q4i (own u 152 2 (vl.flatMap cdC)) u vl hun RdS.own (fun x hx=>ht x (hvm x hx))) (Zy ?_));refine Zg ef ef ef (Zcp Ze (Q4i (own bu 152 2 (best.flatMap cdC)) bu best hbu RdS.own (fun x hx=>ht x (hbm x hx))) (Zg ef ef ef (Zcp Ze (R5 (Ch vl) (Ch best)) ?_)));refine Zg ef ef ef (S.buildSlice (pvs:=[(_,_),(_,_)]) [_,_] Tryz.underlying66 Tryz.D2.h rfl rfl ⟨⟨rfl,rfl⟩,⟨rfl,rfl⟩,trivial⟩ rfl rfl ?_);intro b51;refine Zg ef ef ef (Zcp Ze (Zhd (blk b51 3 #[.int .i64 (X8 u.n bu.n),.int .i64 (X8 (Ch vl) (Ch best))]) ⟨some ⟨b51,0,none⟩,2,2⟩ [X8 u.n bu.n,X8 (Ch vl) (Ch best)] rfl (Zad (cs:=[.int .i64 (X8 u.n bu.n),.int .i64 (X8 (Ch vl) (Ch best))]) rfl (by unfold maxLen;omega))) (ZY 4 ?_));first|(have e:c=decide (orI [X8 u.n bu.n,X8 (Ch vl) (Ch best)]<0):=(by rw[hc,hg8_1,hg8_4,Qx8,hun,hbu];rfl) ;rw[e] ;exact S.meet ⟨rfl,rfl⟩ ⟨rfl,rfl,rfl,rfl,rfl,rfl,rfl,rfl,rfl,rfl,rfl,rfl,rfl,trivial⟩ Sub.Qh)|(have e:c=true:=(by rw[hc,hg8_1,hg8_4];rfl) ;rw[e] ;exact S.meet ⟨rfl,rfl⟩ ⟨rfl,rfl,rfl,rfl,rfl,rfl,rfl,rfl,rfl,rfl,rfl,rfl,rfl,trivial⟩ Sub.Qh)|(have e:c=false:=(by rw[hc,hg8_1];rfl) ;rw[e] ;exact S.meet ⟨rfl,rfl⟩ ⟨rfl,rfl,rfl,rfl,rfl,rfl,rfl,rfl,rfl,rfl,rfl,rfl,rfl,trivial⟩ Sub.Qh)
   ·refine ZY 8 (ZY 8 (ZY 3 ?_));first|(have e:c=decide (orI [X8 u.n bu.n,X8 (Ch vl) (Ch best)]<0):=(by rw[hc,hg8_1,hg8_4,Qx8,hun,hbu];rfl) ;rw[e] ;exact S.meet ⟨rfl,rfl⟩ ⟨rfl,rfl,rfl,rfl,rfl,rfl,rfl,rfl,rfl,rfl,rfl,rfl,rfl,trivial⟩ Sub.Qh)|(have e:c=true:=(by rw[hc,hg8_1,hg8_4];rfl) ;rw[e] ;exact S.meet ⟨rfl,rfl⟩ ⟨rfl,rfl,rfl,rfl,rfl,rfl,rfl,rfl,rfl,rfl,rfl,rfl,rfl,trivial⟩ Sub.Qh)|(have e:c=false:=(by rw[hc,hg8_1];rfl) ;rw[e] ;exact S.meet ⟨rfl,rfl⟩ ⟨rfl,rfl,rfl,rfl,rfl,rfl,rfl,rfl,rfl,rfl,rfl,rfl,rfl,trivial⟩ Sub.Qh)
  ·rintro ρ' Γ' ⟨rfl,rfl⟩
   refine Zi ef (fun h2=>?_) (fun h2=>?_)
   ·rw[if_pos h2]at Wd;refine ZY 8 (Zv (Za ef ef) (ZY 2 ?_));first|exact ZX (q-1) ⟨i+1,u,vl,i,true,by omega,by omega,Wd,hun,by omega,hvm,rfl,rfl⟩ (by omega)|exact ZX (q-1) ⟨i+1,bu,best,row,found,by omega,by omega,Wd,hbu,hbl,hbm,rfl,rfl⟩ (by omega)
   ·rw[if_neg (by rw[h2];simp)]at Wd;refine ZY 2 (Zv (Za ef ef) (ZY 2 ?_));first|exact ZX (q-1) ⟨i+1,u,vl,i,true,by omega,by omega,Wd,hun,by omega,hvm,rfl,rfl⟩ (by omega)|exact ZX (q-1) ⟨i+1,bu,best,row,found,by omega,by omega,Wd,hbu,hbl,hbm,rfl,rfl⟩ (by omega)
 ·have Xi:Lk m tier k l=(best,row,found):=by rw[Lk,←hch,show i=m.R by omega]
  refine ZY 5 (Zp (Zc1 Ze (Q7c (own bu 152 2 (best.flatMap cdC)) bu best hbu hbl RdS.own) ?_));rintro v Θ ⟨u2,rfl,hu2,rfl⟩;refine Zv (Q3 (pvs:=[(_,_),(_,_)]) [_,_] Tryz.z154.h Tryz.Zeq.h ⟨⟨rfl,rfl⟩,⟨rfl,rfl⟩,trivial⟩ rfl) (Zy (Zp (Zs ef ef (cs':=[_,_]) ef (ZY 3 ?_))));exact Zf ef Zq (⟨u2,by rw[Xi];rfl,by rw[Xi];exact hu2,by rw[Xi]⟩)
def Gi(js:List Jb)(j to_:Nat):List Jb:=js.map fun x=>if x.id=j then ⟨x.id,to_,x.ns⟩ else x
theorem Qqp(js:List Jb)(j t:Nat):(Gi js j t).map (·.id)=js.map (·.id):=by
 rw[Gi,List.map_map];refine List.map_congr_left fun x _=>?_;simp only[Function.comp];split <;> rfl
theorem Q19{js js':List Jb}(h:js'.map (·.id)=js.map (·.id))(hs:js.Pairwise (fun a b=>a.id<b.id)):js'.Pairwise (fun a b=>a.id<b.id):=by
 have h1:(js.map (·.id)).Pairwise (· < ·):=List.pairwise_map.2 hs;rw[←h]at h1;exact List.pairwise_map.1 h1
theorem Qq7{js:List Jb}(hs:js.Pairwise (fun a b=>a.id<b.id)){x:Jb}(hx:x∈js)(t:Nat)(y:Jb):y∈Gi js x.id t↔y=⟨x.id,t,x.ns⟩∨(y∈js∧y.id≠x.id):=by
 rw[Gi,List.mem_map]
 constructor
 ·rintro ⟨z,hz,rfl⟩
  by_cases e:z.id=x.id
  ·rw[if_pos e,Dk hs hz hx e];exact .inl rfl
  ·rw[if_neg e];exact .inr ⟨hz,e⟩
 ·rintro (rfl|⟨h1,h2⟩)
  ·exact⟨x,hx,if_pos rfl⟩
  ·exact⟨y,h1,if_neg h2⟩
theorem Qp1{m:Mx}(hm:Xk m){x:Jb}(hx:x∈m.js)(t:Nat):(m.del x.id).add ⟨x.id,t,x.ns⟩={m with js:=Gi m.js x.id t}:=by
 have:D8 ⟨x.id,t,x.ns⟩ (Mm x.id m.js)=Gi m.js x.id t:=by
  refine Qz8 (Ls (Qjw hm.Yz) fun y hy=>(Ww.1 hy).2) (Q19 (Qqp _ _ _) hm.Yz) fun y=>?_;rw[Wm,Ww,Qq7 hm.Yz hx]
 simp only[Mx.add,Mx.del,this]
theorem Qle{js:List Jb}(hs:js.Pairwise (fun a b=>a.id<b.id)){x:Jb}(hx:x∈js):Gi js x.id x.row=js:=by
 refine(List.map_congr_left fun y hy=>?_).trans (List.map_id _)
 by_cases e:y.id=x.id
 ·rw[if_pos e,Dk hs hy hx e];rfl
 ·rw[if_neg e];rfl
theorem Qil(m:Mx)(s:Bs)(hs:∀i,s.getLsbD i=true→i<m.N):∀k,k≤(lst s).length→Kk m ((lst s).map fun i:Nat=>(i:Int)) k=true
 | 0,_=>rfl
 | k+1,hk=>by
  have hr:=List.pairwise_iff_getElem.1 (Ed s);have hk':k<(lst s).length:=by omega
  have e1:((lst s).map fun i:Nat=>(i:Int)).getD k 0=((lst s)[k]:Int):=by simp[List.getD,List.getElem?_eq_getElem hk']
  rw[Kk,Qil m s hs k (by omega),e1,Ws.2 ⟨by omega,by have:=hs _ (X9.1 (List.getElem_mem hk'));omega⟩,Bool.true_and,Bool.true_and,Bool.or_eq_true,decide_eq_true_eq,decide_eq_true_eq]
  by_cases e:k=0
  ·exact .inl e
  ·refine .inr ?_;have hk2:k-1<(lst s).length:=by omega
   have e2:((lst s).map fun i:Nat=>(i:Int)).getD (k-1) 0=((lst s)[k-1]:Int):=by simp[List.getD,List.getElem?_eq_getElem hk2]
   rw[e2];have:=hr (k-1) k hk2 hk' (by omega);omega
theorem Qvg(s:Bs):nats ((lst s).map fun i:Nat=>(i:Int))=lst s:=by
 rw[nats,List.map_map];exact(List.map_congr_left fun i _=>by simp[Function.comp]).trans (List.map_id _)
theorem Qqt{m:Mx}(hm:Xk m){x:Jb}(hx:x∈m.js)(z:Int):X7 (m.del x.id) x.id z ((lst x.ns).map fun i:Nat=>(i:Int)) =
  if Kg m z=false then (1,m.del x.id) else if tk (Mm x.id m.js) z.toNat &&& x.ns≠0#16 then (15,m.del x.id) else (0,{m with js:=Gi m.js x.id z.toNat}):=by
 have h1:=hm.B6 x hx
 have hl:0<(lst x.ns).length:=by
  cases e:lst x.ns with
  | nil=>exact absurd (Qf5.1 e) (hm.some x hx)
  | cons a l=>simp
 have hok:Kk (m.del x.id) ((lst x.ns).map fun i:Nat=>(i:Int)) ((lst x.ns).map fun i:Nat=>(i:Int)).length=true:=by
  rw[List.length_map];exact Qil (m.del x.id) x.ns (fun i hi=>hm.ns x hx i hi) _ (Nat.le_refl _)
 have hp:Wc (m.del x.id) x.id z ((lst x.ns).map fun i:Nat=>(i:Int))=Kg m z:=by
  rw[Wc,List.length_map,decide_eq_true (show ((x.id:Nat):Int)≠0 by omega),decide_eq_true (show (((lst x.ns).length:Nat):Int) > 0 by omega),Bool.true_and,Bool.and_true];rfl
 have J0:look (m.del x.id).js x.id=none:=by
  cases e:look (m.del x.id).js x.id with
  | none=>rfl
  | some y=>obtain⟨q1,q2⟩:=Ka e;exact absurd q2 (Ww.1 q1).2
 rw[X7,hp,hok,Bool.and_true,J0,Qvg,Q1j]
 by_cases e:Kg m z=false
 ·rw[if_pos e,if_pos e]
 ·rw[if_neg e,if_neg e,←Qp1 hm hx];rfl
def Vm(m:Mx)(x:Jb)(z:Int):Bool:=Kg m z&&decide (tk (Mm x.id m.js) z.toNat &&& x.ns=0#16)
def Wi(m:Mx)(j:Nat)(z:Int):Option (Nat×Int×Int)×Mx:=match look m.js j with
 | none=>(none,m)
 | some x=>if Vm m x z then (some (j,(x.row:Int),z),{m with js:=Gi m.js j z.toNat}) else (none,m)
theorem Xk.Q1i{m:Mx}(hm:Xk m){x:Jb}(hx:x∈m.js){t:Nat}(ht:t<m.R)(hd:tk (Mm x.id m.js) t &&& x.ns=0#16):Xk {m with js:=Gi m.js x.id t}:=by
 rw[←Qp1 hm hx];exact(hm.del x.id).add (fun y hy=>(Ww.1 hy).2) (hm.B6 x hx) (hm.Al x hx) ht (hm.some x hx) (hm.ns x hx) hd
theorem Qbc{m:Mx}(hm:Xk m)(j:Nat)(z:Int):Xk (Wi m j z).2:=by
 unfold Wi;cases h:look m.js j with
 | none=>exact hm
 | some x=>
  obtain⟨h1,h2⟩:=Ka h;simp only
  by_cases hc:Vm m x z=true
  ·rw[if_pos hc];rw[Vm,Bool.and_eq_true,decide_eq_true_eq]at hc;have hr:=Vi.1 hc.1;rw[←h2];exact hm.Q1i h1 (by omega) hc.2
  ·rw[if_neg hc];exact hm
abbrev Mv:=Nat×Int×Int
def Vy(m:Mx)(j:Nat):Nat→Option (Mv×Mx)
 | 0=>none
 | i+1=>match Vy m j i with
  | some r=>some r
  | none=>match Wi m j i with
   | (some x,m')=>some (x,m')
   | (none,_)=>none
def Kw(j:Nat)(ids:List Nat)(a:Mx×List Mv):Nat→Mx×List Mv
 | 0=>a
 | q+1=>match Vy (Kw j ids a q).1 (ids.getD q 0) j with
  | some r=>(r.2,(Kw j ids a q).2++[r.1])
  | none=>Kw j ids a q
def Nf(m:Mx):Nat→Mx×List Mv
 | 0=>(m,[])
 | k+1=>Kw (k+1) (Z9 (Nf m k).1 ((k+1:Nat):Int)) (Nf m k) (Z9 (Nf m k).1 ((k+1:Nat):Int)).length
def Uu(m:Mx):Mx×List Mv:=Nf m (m.R-1)
theorem Qow(m:Mx)(j:Nat)(z:Int):(Wi m j z).2.R=m.R∧(Wi m j z).2.N=m.N∧(Wi m j z).2.up=m.up:=by
 unfold Wi;cases look m.js j with
 | none=>exact⟨rfl,rfl,rfl⟩
 | some x=>simp only;split <;> exact⟨rfl,rfl,rfl⟩
theorem Qbb{m:Mx}{j:Nat}{z:Int}{x:Mv}{m':Mx}(h:Wi m j z=(some x,m')):∃y,look m.js j=some y∧Vm m y z=true∧x=(j,(y.row:Int),z)∧m'={m with js:=Gi m.js j z.toNat}:=by
 unfold Wi at h;cases hl:look m.js j with
 | none=>rw[hl]at h;simp at h
 | some y=>
  rw[hl]at h;simp only at h
  by_cases hc:Vm m y z=true
  ·rw[if_pos hc]at h;simp only[Prod.mk.injEq,Option.some.injEq]at h;exact⟨y,rfl,hc,h.1.symm,h.2.symm⟩
  ·rw[if_neg hc]at h;simp at h
theorem Qbd{m:Mx}{j:Nat}{z:Int}{m':Mx}(h:Wi m j z=(none,m')):m'=m∧∀y,look m.js j=some y→Vm m y z=false:=by
 unfold Wi at h;cases hl:look m.js j with
 | none=>rw[hl]at h;simp only[Prod.mk.injEq,true_and]at h;exact⟨h.symm,fun y hy=>by cases hy⟩
 | some y=>
  rw[hl]at h;simp only at h
  by_cases hc:Vm m y z=true
  ·rw[if_pos hc]at h;simp at h
  ·rw[if_neg hc]at h;simp only[Prod.mk.injEq,true_and]at h;exact⟨h.symm,fun y' hy'=>by cases hy';simpa using hc⟩
theorem Qqj{m:Mx}{f:Nat}(hf:f<m.R):Z9 m f=(Kf m f).map (·.id):=by rw[Z9,if_pos (Vi.2 ⟨by omega,by omega⟩),Int.toNat_natCast]
theorem Qlv{m:Mx}(hm:Xk m){f:Nat}(hf:f<m.R){j:Nat}:j∈Z9 m f↔∃x∈m.js,x.row=f∧x.id=j:=by
 rw[Qqj hf,List.mem_map]
 constructor
 ·rintro ⟨x,hx,rfl⟩;exact⟨x,((Xn hm).1 hx).1,((Xn hm).1 hx).2,rfl⟩
 ·rintro ⟨x,h1,h2,rfl⟩;exact⟨x,(Xn hm).2 ⟨h1,h2⟩,rfl⟩
abbrev casts(l:List Nat):List Int:=l.map fun i:Nat=>(i:Int)
theorem Q4k(s:SV)(T:TypeId)(l:List Nat):RdS (own s T 1 (nds l)) s s.n 1 (ints (casts l)):=by
 have e:ints (casts l)=nds l:=by simp
 rw[e];exact RdS.own
theorem Gn{l:List Nat}{i x:Nat}(h:l[i]?=some x):(Q9 l)[i]?=some (.int .u32 (x:Int)):=by
 show (l.map _)[i]?=_;rw[List.getElem?_map,h];rfl
abbrev mvC(x:Mv):List Value:=[.int .u32 (x.1:Int),.int .i64 x.2.1,.int .i64 x.2.2]
abbrev mvV(x:Mv):Value:=.agg #[.int .u32 (x.1:Int),.int .i64 x.2.1,.int .i64 x.2.2]
def mvR(o:Option Mv):Mv:=o.getD (0,0,0)
theorem F8{m:Mx}(hm:Xk m){x:Jb}(hx:x∈m.js)(z:Int):(Vm m x z=true→X7 (m.del x.id) x.id z ((lst x.ns).map fun i:Nat=>(i:Int))=(0,{m with js:=Gi m.js x.id z.toNat})) ∧
  (Vm m x z=false→∃e:Int,e≠0∧X7 (m.del x.id) x.id z ((lst x.ns).map fun i:Nat=>(i:Int))=(e,m.del x.id)):=by
 rw[Qqt hm hx]
 constructor
 ·intro h;rw[Vm,Bool.and_eq_true,decide_eq_true_eq]at h;rw[if_neg (by rw[h.1];simp),if_neg (fun e=>e h.2)]
 ·intro h
  by_cases h1:Kg m z=false
  ·rw[if_pos h1];exact⟨1,by omega,rfl⟩
  ·rw[if_neg h1]
   by_cases h2:tk (Mm x.id m.js) z.toNat &&& x.ns≠0#16
   ·rw[if_pos h2];exact⟨15,by omega,rfl⟩
   ·exfalso;rw[Vm,show Kg m z=true by simpa using h1,decide_eq_true (Classical.byContradiction h2)]at h;cases h
theorem Qqs{m:Mx}(hm:Xk m){x:Jb}(hx:x∈m.js):X7 (m.del x.id) x.id (x.row:Int) ((lst x.ns).map fun i:Nat=>(i:Int))=(0,m):=by
 have hr:=hm.row x hx
 have hc:Vm m x (x.row:Int)=true:=by
  rw[Vm,Vi.2 ⟨by omega,by omega⟩,Bool.true_and,decide_eq_true_eq,Int.toNat_natCast,Qno hm hx,if_pos rfl];refine BitVec.eq_of_getLsbD_eq fun i _=>?_;rw[BitVec.getLsbD_and,BitVec.getLsbD_and,BitVec.getLsbD_not];cases x.ns.getLsbD i <;> simp
 rw[(F8 hm hx _).1 hc,Int.toNat_natCast,Qle hm.Yz hx]
theorem Q64(b:Nat)(m:Mx)(j:Nat)(z:Int)(hj:j≤4294967295){W:World}(hW:H6 W):Spec Tryz.prog 86 [.pointer (some ⟨b,0,none⟩),.int .u32 (j:Int),.int .i64 z] [MI b m,Xa W] fun Γ v Θ=>v=.tuple #[mvV (mvR (Wi m j z).1),.bool (Wi m j z).1.isSome]∧Θ=MI b (Wi m j z).2::Xa W::Γ:=by
 refine Spec.Qq6 fun hok=>?_;refine Zbd Tryz.func86 rfl Tryz.ntmps86 fun w0 Γ=>Zsh (ZY 2 (Zp (S.alloc Tryz.Qtd.h rfl ?_)));intro b6;refine ZY 6 (Zp (Zc1 Ze (Q9b b m j hW) ?_));rintro v Θ ⟨sv,rfl,Km,rfl⟩;refine ZY 8 (ZY 6 ?_)
 refine Zi ef (fun h1=>?_) (fun h1=>?_)
 ·have hn:look m.js j=none:=by cases h:look m.js j with|none=>rfl|some x=>rw[Hl h]at h1;cases h1
  have hmv:Wi m j z=(none,m):=by simp only[Wi,hn]
  refine ZY 2 ?_;refine Zv (Q3 (pvs:=[]) [_,_,_] Tryz.Qtd.h Tryz.Q6z.h trivial rfl) (Zp (Zs ef ef (cs':=[_,_,_]) ef (ZY 3 ?_)));exact Zf ef Zq (⟨by rw[hmv];rfl,by rw[hmv]⟩)
 ·obtain⟨x,hx⟩:∃x,look m.js j=some x:=by cases h:look m.js j with|none=>rw[Nv h]at h1;cases h1|some x=>exact⟨x,rfl⟩
  obtain⟨Js,hxj⟩:=Ka hx;rw[Hl hx]at Km ⊢;simp only at Km ⊢;refine ZY 5 (Zp (Zcp Ze (Qkh b m j) ?_));rw[E5 hx];refine ZY 8 (Zp (Zcp Ze (Qza b (m.del j) j z (own sv 3 1 (nds (lst x.ns))) sv (casts (lst x.ns)) (by rw[Km,List.length_map]) (Q4k sv 3 (lst x.ns)) hj) (ZY 2 ?_)))
  refine Zj ef (fun h2=>?_) (fun h2=>?_)
  ·have hcm:Vm m x z=false:=by
    cases h:Vm m x z with
    | false=>rfl
    | true=>
     have h9:=(F8 hok Js z).1 h;rw[hxj]at h9;exact absurd (by rw[h9]) h2
   obtain⟨e,_,he⟩:=(F8 hok Js z).2 hcm;rw[hxj]at he;have Q5c:=Qqs hok Js;rw[hxj]at Q5c;have hmv:Wi m j z=(none,m):=by simp only[Wi,hx];rw[if_neg (by rw[hcm];simp)]
   rw[he];refine ZY 6 (Zp (Zcp Ze (Qza b (m.del j) j (x.row:Int) (own sv 3 1 (nds (lst x.ns))) sv (casts (lst x.ns)) (by rw[Km,List.length_map]) (Q4k sv 3 (lst x.ns)) hj) ?_));rw[Q5c];refine ZY 3 ?_;refine Zv (Q3 (pvs:=[]) [_,_,_] Tryz.Qtd.h Tryz.Q6z.h trivial rfl) (Zp (Zs ef ef (cs':=[_,_,_]) ef (ZY 3 ?_)));exact Zf ef Zq (⟨by rw[hmv];rfl,by rw[hmv]⟩)
  ·have hcm:Vm m x z=true:=by
    cases h:Vm m x z with
    | true=>rfl
    | false=>
     obtain⟨e,h8,h9⟩:=(F8 hok Js z).2 h;rw[hxj]at h9;exact absurd (by rw[h9];exact h8) h2
   have hp:=(F8 hok Js z).1 hcm;rw[hxj]at hp;have hmv:Wi m j z=(some (j,(x.row:Int),z),{m with js:=Gi m.js j z.toNat}):=by simp only[Wi,hx];rw[if_pos hcm]
   rw[hp];refine ZY 6 ?_;refine Zv (Q3 (pvs:=[(_,_),(_,_),(_,_)]) [_,_,_] Tryz.Qtd.h Tryz.Q6z.h ⟨⟨rfl,rfl⟩,⟨rfl,rfl⟩,⟨rfl,rfl⟩,trivial⟩ rfl) (Zp (Zs ef ef (cs':=[_,_,_]) ef (ZY 3 ?_)));exact Zf ef Zq (⟨by rw[hmv];rfl,by rw[hmv]⟩)
theorem Qh7(b:Nat)(m:Mx):Spec Tryz.prog 84 [.pointer (some ⟨b,0,none⟩)] [MI b m] fun Γ v Θ=>v=.int .i64 (m.R:Int)∧Θ=MI b m::Γ:=by
 refine Zbd Tryz.func84 rfl Tryz.ntmps84 fun w0 Γ=>Zsh (ZY 7 (Zp (Zcp Ze (Qnd b m) (ZY 8 (ZY 4 ?_)))));exact Zf ef Zq (⟨rfl,rfl⟩)
theorem Gf(m:Mx)(z:Int):(Z9 m z).length≤16:=by
 unfold Z9
 split
 ·rw[List.length_map];exact Na m _
 ·simp
theorem Rf{m:Mx}{j:Nat}:∀ {p:Nat},Vy m j p=none→∀i,i<p→(Wi m j i).1=none
 | 0,_,i,hi=>by omega
 | p+1,h,i,hi=>by
  rw[Vy]at h;cases hr:Vy m j p with
  | some r=>rw[hr]at h;cases h
  | none=>
   rw[hr]at h;simp only at h;cases hv:Wi m j p with
   | mk x m'=>
    rw[hv]at h;cases x with
    | some x=>cases h
    | none=>
     by_cases e:i=p
     ·rw[e,hv]
     ·exact Rf hr i (by omega)
theorem Rg{m:Mx}{j:Nat}{r:Mv×Mx}:∀ {p q:Nat},Vy m j p=some r→p≤q→Vy m j q=some r
 | p,0,h,hq=>by rwa [show p=0 by omega]at h
 | p,q+1,h,hq=>by
  by_cases e:p=q+1
  ·rwa [e]at h
  ·rw[Vy,Rg h (by omega)]
theorem Re{m:Mx}(hm:Xk m){j:Nat}{r:Mv×Mx}:∀ {p:Nat},Vy m j p=some r→Xk r.2∧r.2.R=m.R∧∃i,i<p∧Wi m j i=(some r.1,r.2)
 | 0,h=>by cases h
 | p+1,h=>by
  rw[Vy]at h;cases hr:Vy m j p with
  | some r'=>
   rw[hr]at h;simp only[Option.some.injEq]at h;subst h;obtain⟨h1,h2,i,h3,h4⟩:=Re hm hr;exact⟨h1,h2,i,by omega,h4⟩
  | none=>
   rw[hr]at h;simp only at h;cases hv:Wi m j p with
   | mk x m'=>
    rw[hv]at h;cases x with
    | none=>cases h
    | some x=>
     simp only[Option.some.injEq]at h;subst h;have h1:=Qbc hm j p;have h2:=(Qow m j p).1;rw[hv]at h1 h2;exact⟨h1,h2,p,by omega,hv⟩
theorem Qy8(b:Nat)(m:Mx){W:World}(hW:H6 W):Spec Tryz.prog 45 [.pointer (some ⟨b,0,none⟩)] [MI b m,Xa W] fun Γ v Θ=>∃(c:Nat) (sv:SV),v=.tuple #[.pointer (some ⟨c,0,none⟩),sv.v]∧sv.n=(Uu m).2.length ∧
  Θ=own sv 161 3 ((Uu m).2.flatMap mvC)::MI c (Uu m).1::MI b m::Xa W::Γ:=by
 refine Spec.Qq6 fun hok=>?_;refine Zbd Tryz.func45 rfl Tryz.ntmps45 fun w0 Γ=>Zsh ?_;have Sl:=hok.R8;have P2:=hok.R1;refine ZY 8 (Zp (Zc1 Ze (Q9m b m) ?_));rintro v Θ ⟨c,rfl,rfl⟩;refine ZY 8 (Zy (S.Qh (Ent.Ye 161 3) ?_));show S _ w0 _ (own SV.nil 161 3 (([]:List Mv).flatMap mvC)::_) _;refine ZY 3 ?_;refine Zl (fun q ρ' Γ'=>∃(j k:Nat) (sv:SV) (xs:List Mv) (mm:Mx),q=m.R-j∧j=k+1∧j≤m.R∧Nf m k=(mm,xs)∧Xk mm∧mm.R=m.R∧xs.length≤16*k∧sv.n=xs.length∧ρ'=[(4,.pointer (some ⟨c,0,none⟩)),(5,sv.v),(6,.int .i64 (j:Int))] ∧   Γ'=own sv 161 3 (xs.flatMap mvC)::MI c mm::MI b m::Xa W::Γ) (m:=_) (⟨1,0,SV.nil,[],m,rfl,rfl,by omega,rfl,hok,rfl,Nat.le_refl _,rfl,rfl,rfl⟩) ?_;rintro q ρ' Γ' ⟨j,k,sv,xs,mm,hq,hjk,hj,hru,hmo,hmR,Mu,Km,rfl,rfl⟩;refine ZY 5 (Zp (Zcp Ze (Qh7 c mm) ?_));rw[hmR];refine ZY 2 ?_
 refine Zj ef (fun h1=>?_) (fun h1=>?_)
 ·obtain⟨ids,hids⟩:∃ids,ids=Z9 mm j:=⟨_,rfl⟩;have h16:=Gf mm j;rw[←hids]at h16
  have hidj:∀y∈ids,y≤4294967295:=fun y hy=>by
   rw[hids]at hy;obtain⟨x,h1,_,h3⟩:=(Qlv hmo (by omega)).1 hy;rw[←h3];exact hmo.Al x h1
  have Zbj:Nf m (k+1)=Kw j ids (mm,xs) ids.length:=by rw[Nf,hru,hids,hjk]
  refine ZY 7 (Zp (Zc1 Ze (Qp3 c mm j hW) ?_));rintro v Θ ⟨rv,rfl,hrv,rfl⟩;rw[←hids]at hrv ⊢;refine ZY 4 ?_;refine Zl (fun q2 ρ' Γ'=>∃(p:Nat) (s2:SV) (ys:List Mv) (m2:Mx),q2=ids.length-p∧p≤ids.length∧Kw j ids (mm,xs) p=(m2,ys)∧Xk m2∧m2.R=m.R∧ys.length≤16*k+p∧s2.n=ys.length∧ρ'=[(4,.pointer (some ⟨c,0,none⟩)),(5,s2.v),(6,.int .i64 (j:Int)),(22,rv.v),(23,.int .i64 rv.n),(24,.int .i64 (p:Int))] ∧   Γ'=own s2 161 3 (ys.flatMap mvC)::own rv 31 1 (Q9 ids)::MI c m2::MI b m::Xa W::Γ) (m:=_) (⟨0,sv,xs,mm,rfl,by omega,rfl,hmo,hmR,by omega,Km,rfl,rfl⟩) ?_;rintro q2 ρ' Γ' ⟨p,s2,ys,m2,hq2,hp,hrr,hm2,Q2r,hyl,Jz,rfl,rfl⟩;refine ZY 5 ?_
  refine Zj ef (fun h2=>?_) (fun h2=>?_)
  ·refine S.Qp rv (by omega) fun rb rf hra _ _ _=>?_;obtain⟨y,hy⟩:=Yv (show p<ids.length by omega);have hyd:ids.getD p 0=y:=by simp[List.getD,hy]
   have Ze0:=hidj y (List.mem_of_getElem? hy);refine ZY 2 ?_
   refine Zc (fun ρ' Γ'=>∃(s2':SV) (ys':List Mv) (m2':Mx),Kw j ids (mm,xs) (p+1)=(m2',ys')∧Xk m2'∧m2'.R=m.R∧ys'.length≤16*k+(p+1)∧s2'.n=ys'.length∧ρ'=[(4,.pointer (some ⟨c,0,none⟩)),(5,s2'.v),(6,.int .i64 (j:Int)),(22,rv.v),(23,.int .i64 rv.n),(24,.int .i64 (p:Int))] ∧   Γ'=own s2' 161 3 (ys'.flatMap mvC)::own rv 31 1 (Q9 ids)::MI c m2'::MI b m::Xa W::Γ) ?_ ?_
   ·refine ZY 3 (Zv (Zx (p) ef (hra) ef (by omega)) (Zv (Zo (rv) (p) ef (hra) (Gn hy)) (ZY 8 ?_)));refine Zl (fun q3 ρ' Γ'=>∃i:Nat,q3=j-i∧i≤j∧Vy m2 y i=none∧ρ'=[(4,.pointer (some ⟨c,0,none⟩)),(5,s2.v),(6,.int .i64 (j:Int)),(8,.int .u32 (y:Int)),(22,rv.v),(23,.int .i64 rv.n),(24,.int .i64 (p:Int)),(28,.int .i64 (j:Int)),(29,.int .i64 (i:Int))] ∧   Γ'=own s2 161 3 (ys.flatMap mvC)::own rv 31 1 (Q9 ids)::MI c m2::MI b m::Xa W::Γ) (m:=_) (⟨0,rfl,by omega,rfl,rfl,rfl⟩) ?_;rintro q3 ρ' Γ' ⟨i,hq3,hi,htr,rfl,rfl⟩;refine ZY 5 ?_
    refine Zj ef (fun h3=>?_) (fun h3=>?_)
    ·refine ZY 8 (ZY 5 (Zp (Zcp Ze (Q64 c m2 y i Ze0 hW) (ZY 3 (Zp (S.alloc Tryz.Qtd.h rfl ?_))))));intro b10;refine Zp (Zs ef ef (cs':=[_,_,_]) ef (ZY 6 ?_))
     refine Zi ef (fun h4=>?_) (fun h4=>?_)
     ·obtain⟨x,m3,hv⟩:∃x m3,Wi m2 y i=(some x,m3):=by
       cases hv:Wi m2 y i with
       | mk x m'=>
        rw[hv]at h4;cases x with
        | none=>cases h4
        | some x=>exact⟨x,m',rfl⟩
      have Q2k:Vy m2 y (i+1)=some (x,m3):=by rw[Vy,htr];simp only[hv]
      have Zbh:=Rg Q2k (show i+1≤j by omega);have Qwx:Kw j ids (mm,xs) (p+1)=(m3,ys++[x]):=by rw[Kw,hrr,hyd,Zbh]
      obtain⟨hm3,Zf0,_⟩:=Re hm2 Zbh;have Q47:m3.R=m.R:=Zf0.trans Q2r;rw[hv];simp only[mvR,Option.getD_some];refine ZY 4 ?_;refine Zp (S.buildSlice (pvs:=[(_,_)]) [_,_,_] Tryz.underlying92 Tryz.Qwg.h rfl rfl ⟨⟨rfl,rfl⟩,trivial⟩ rfl rfl ?_);intro b42;refine Zp (S.Qu (s:=s2) (1) (mvC x) Tryz.underlying92 Tryz.Qwg.h rfl rfl rfl (Qy (b:=b42) rfl (by unfold maxLen;omega)) (by first|rfl|exact Ql _) (⟨by omega,by omega⟩) rfl ?_);intro s4 Pw;refine ZY 3 ?_;first|(rw[Xg mvC ys x];exact S.meet ⟨s4,ys++[x],m3,Qwx,hm3,Q47,by rw[List.length_append,List.length_singleton];omega,by rw[List.length_append,List.length_singleton];omega,rfl,rfl⟩ ⟨rfl,rfl,rfl,rfl,rfl,rfl,trivial⟩ Sub.Qh)|exact S.meet ⟨s2,ys,m2,Qwx,hm2,Q2r,by omega,Jz,rfl,rfl⟩ ⟨rfl,rfl,rfl,rfl,rfl,rfl,trivial⟩ Sub.Qh
     ·have Q2k:Vy m2 y (i+1)=none∧(Wi m2 y i).2=m2:=by
       cases hv:Wi m2 y i with
       | mk x m'=>
        rw[hv]at h4;cases x with
        | some x=>cases h4
        | none=>exact⟨by rw[Vy,htr];simp only[hv],(Qbd hv).1⟩
      rw[Q2k.2];refine ZY 2 (Zv (Za ef ef) (ZY 2 ?_));exact ZX (q3-1) (⟨i+1,by omega,by omega,Q2k.1,rfl,rfl⟩) (by omega)
    ·have hij:i=j:=by omega
     rw[hij]at htr;have Qwx:Kw j ids (mm,xs) (p+1)=(m2,ys):=by rw[Kw,hrr,hyd,htr]
     refine Zy ?_;first|(rw[Xg mvC ys x];exact S.meet ⟨s4,ys++[x],m3,Qwx,hm3,Q47,by rw[List.length_append,List.length_singleton];omega,by rw[List.length_append,List.length_singleton];omega,rfl,rfl⟩ ⟨rfl,rfl,rfl,rfl,rfl,rfl,trivial⟩ Sub.Qh)|exact S.meet ⟨s2,ys,m2,Qwx,hm2,Q2r,by omega,Jz,rfl,rfl⟩ ⟨rfl,rfl,rfl,rfl,rfl,rfl,trivial⟩ Sub.Qh
   ·rintro ρ' Γ' ⟨s2',ys',m2',hrr',hm2',hm2R',hyl',hs2',rfl,rfl⟩;refine Zy (Zv (Za ef ef) (ZY 2 ?_));exact ZX (q2-1) (⟨p+1,s2',ys',m2',by omega,by omega,hrr',hm2',hm2R',hyl',hs2',rfl,rfl⟩) (by omega)
  ·have hpl:p=ids.length:=by omega
   rw[hpl]at hrr;rw[hrr]at Zbj;refine ZY 3 (Zv (Za ef ef) (ZY 2 ?_));exact ZX (q-1) (⟨j+1,k+1,s2,ys,m2,by omega,by omega,by omega,Zbj,hm2,Q2r,by omega,Jz,rfl,rfl⟩) (by omega)
 ·have Xi:Uu m=(mm,xs):=by rw[Uu,show m.R-1=k by omega,hru]
  refine ZY 8 (Zy ?_);exact Zf ef Zq (⟨c,sv,rfl,by rw[Xi];exact Km,by rw[Xi]⟩)
end Go.Proofs.YtdackcibfkkniaaGreatDoor
namespace Go.Proofs.YtdackcibfkkniaaGreatDoor
namespace PR
open Go.RowKit
structure It where
 id:Int
 tier:Int
 since:Int
 deriving DecidableEq
instance:Inhabited It:=⟨⟨0,0,0⟩⟩
abbrev itC(x:It):List Value:=[.int .u32 x.id,.int .u8 x.tier,.int .u32 x.since]
theorem Kt:∀x,(itC x).length=3:=fun _=>rfl
def X8(a b:Int):Int:=if a<b then -1 else if b<a then 1 else 0
def bf(a b:It):Bool:=decide (b.tier<a.tier∨(a.tier=b.tier∧(a.since<b.since∨(a.since=b.since∧a.id<b.id))))
theorem Q8y(a:It):bf a a=false:=decide_eq_false (by omega)
theorem Qyr{a b c:It}(h1:bf a b=true)(h2:bf b c=true):bf a c=true:=by
 simp only[bf,decide_eq_true_eq]at *;omega
theorem Q5u{a b:It}(h1:bf a b=true):bf b a=false:=by
 simp only[bf,decide_eq_true_eq,decide_eq_false_iff_not]at *;omega
theorem Q5t{a b c:It}(h1:bf a b=false)(h2:bf b c=false):bf a c=false:=by
 simp only[bf,decide_eq_false_iff_not]at *;omega
theorem Qys{a b:It}(h:a.id≠b.id):bf a b=true∨bf b a=true:=by
 simp only[bf,decide_eq_true_eq];omega
theorem Cw(x:Int)(W:World):Um Tryz.prog 201 [.int .u8 x] W (.bool false):=by
 refine Zbd Tryz.func201 rfl Tryz.ntmps201 fun w0 Γ=>Zsh (ZY 8 (ZY 4 ?_));exact Zf ef Zq (⟨by simp only[X2];rw[decide_eq_false (fun h=>h rfl)],rfl⟩)
theorem Eg(x:Int)(W:World):Um Tryz.prog 192 [.int .u32 x] W (.bool false):=by
 refine Zbd Tryz.func192 rfl Tryz.ntmps192 fun w0 Γ=>Zsh (ZY 8 (ZY 4 ?_));exact Zf ef Zq (⟨by simp only[X2];rw[decide_eq_false (fun h=>h rfl)],rfl⟩)
theorem Ms(x y:Int)(W:World):Um Tryz.prog 170 [.int .u8 x,.int .u8 y] W (.int .i64 (X8 x y)):=by
 refine Zbd Tryz.func170 rfl Tryz.ntmps170 fun w0 Γ=>Zsh (ZY 7 ?_);refine Zp (S.Vs Eo.h (vs:=[_]) ⟨rfl,trivial⟩ (fun w hs=>Cw x w) rfl (ZY 5 ?_));refine Zp (S.Vs Eo.h (vs:=[_]) ⟨rfl,trivial⟩ (fun w hs=>Cw y w) rfl (ZY 7 (ZF ef (ZY 6 (ZF ef (ZY 8 ?_))))))
 refine Zj ef (fun h4=>?_) (fun h4=>?_)
 ·refine ZY 5 ?_;exact Zf ef Zq (⟨by simp only[X2,X8];rw[if_pos (by assumption)],rfl⟩)
 ·refine ZY 8 ?_
  refine Zj ef (fun h5=>?_) (fun h5=>?_)
  ·refine ZY 5 ?_;exact Zf ef Zq (⟨by simp only[X2,X8];rw[if_neg (by assumption),if_pos (by assumption)],rfl⟩)
  ·refine ZY 6 ?_;exact Zf ef Zq (⟨by simp only[X2,X8];rw[if_neg (by assumption),if_neg (by assumption)],rfl⟩)
theorem Fo(x y:Int)(W:World):Um Tryz.prog 171 [.int .u32 x,.int .u32 y] W (.int .i64 (X8 x y)):=by
 refine Zbd Tryz.func171 rfl Tryz.ntmps171 fun w0 Γ=>Zsh (ZY 7 ?_);refine Zp (S.Vs Eo.h (vs:=[_]) ⟨rfl,trivial⟩ (fun w hs=>Eg x w) rfl (ZY 5 ?_));refine Zp (S.Vs Eo.h (vs:=[_]) ⟨rfl,trivial⟩ (fun w hs=>Eg y w) rfl (ZY 7 (ZF ef (ZY 6 (ZF ef (ZY 8 ?_))))))
 refine Zj ef (fun h4=>?_) (fun h4=>?_)
 ·refine ZY 5 ?_;exact Zf ef Zq (⟨by simp only[X2,X8];rw[if_pos (by assumption)],rfl⟩)
 ·refine ZY 8 ?_
  refine Zj ef (fun h5=>?_) (fun h5=>?_)
  ·refine ZY 5 ?_;exact Zf ef Zq (⟨by simp only[X2,X8];rw[if_neg (by assumption),if_pos (by assumption)],rfl⟩)
  ·refine ZY 6 ?_;exact Zf ef Zq (⟨by simp only[X2,X8];rw[if_neg (by assumption),if_neg (by assumption)],rfl⟩)
def orI:List Int→Int
 | []=>0
 | x::l=>if x≠0 then x else orI l
abbrev ints(l:List Int):List Value:=l.map (Value.int .i64)
theorem Qzb(s:SV)(l:List Int)(W:World)(hn:s.n=l.length)(h0:Hp W s.v l.length 1 (ints l)):Um Tryz.prog 121 [s.v] W (.int .i64 (orI l)):=by
 have hm0:=M1 h0;unfold maxLen at hm0;refine Zbd Tryz.func121 rfl Tryz.ntmps121 fun w0 Γ=>Zsh (ZY 8 (ZY 8 ?_));refine Zl (fun m ρ' Γ'=>∃k:Nat,m+k=l.length∧orI l=orI (l.drop k)∧ρ'=[(3,.int .i64 0),(6,s.v),(7,.int .i64 s.n),(8,.int .i64 k)]∧Γ'=Xa W::Γ) (m:=_) (⟨0,rfl,rfl,rfl,rfl⟩) ?_;rintro m ρ' Γ' ⟨k,hmk,hor,rfl,rfl⟩;refine ZY 5 ?_
 refine Zj ef (fun h1=>?_) (fun h1=>?_)
 ·obtain⟨x,hx⟩:=Yv (l:=l) (i:=k) (by omega);obtain⟨b,off,hb,Uw⟩:=J5 h0 (by omega)
  have Fz:l.drop k=x::l.drop (k+1):=by
   have Ao:=(List.getElem?_eq_some_iff.1 hx);rw[List.drop_eq_getElem_cons Ao.1,Ao.2]
  refine ZY 5 (Zv (Zx (k) ef (hb) ef (by omega)) ?_);refine Zv (Fa Eo.h rfl (Uw _ _ (by rw[Nat.mul_one,List.getElem?_map,hx];rfl))) ?_;refine ZY 8 ?_
  refine Zj ef (fun h2=>?_) (fun h2=>?_)
  ·refine ZY 6 ?_;exact Zf ef Zq (⟨by simp only[X2];rw[hor,Fz,orI,if_pos (by assumption)],rfl⟩)
  ·refine ZY 2 (Zv (Za ef ef) (ZY 2 ?_));exact ZX (m-1) (⟨k+1,by omega,by rw[hor,Fz,orI,if_neg (by assumption)],rfl,rfl⟩) (by omega)
 ·refine ZY 7 ?_;exact Zf ef Zq (⟨by simp only[X2];rw[hor,List.drop_eq_nil_of_le (by omega),orI],rfl⟩)
def Qqy(a b:It):Int:=orI [X8 b.tier a.tier,X8 a.since b.since,X8 a.id b.id]
theorem Qom(a b:It):decide (Qqy a b<0)=bf a b:=by
 unfold Qqy orI orI orI orI X8 bf;refine decide_eq_decide.2 ?_;split <;> split <;> (try split) <;> (try split) <;> (try split) <;> (try split) <;> omega
set_option maxRecDepth 20000 in
theorem Bp(x y:It)(W:World):Um Tryz.prog 143 [.agg (itC x).toArray,.agg (itC y).toArray] W (.int .i64 (Qqy x y)):=by
 refine Zbd Tryz.func143 rfl Tryz.ntmps143 fun w0 Γ=>Zsh (ZY 2 (Zp (S.box (cs:=[_,_,_]) rfl rfl rfl ?_)));intro b2;refine Zp (S.box (cs:=[_,_,_]) rfl rfl rfl ?_);intro b3;refine ZY 3 ?_;refine Zd ([blk b2 183 (itC x).toArray,blk b3 183 (itC y).toArray]) [] [0,1,2,3,5,6,7,8,10,11,12,13] (ZY 8 (ZY 4 ?_));refine Z1 (i:=4) ef ef ?_;refine(S.Vs Eo.h (vs:=[_,_]) ⟨rfl,rfl,trivial⟩ (fun w hs=>Ms y.tier x.tier w) rfl ?_);refine Zk [] ?_;refine Z1 (i:=9) ef ef ?_;refine(S.Vs Eo.h (vs:=[_,_]) ⟨rfl,rfl,trivial⟩ (fun w hs=>Fo x.since y.since w) rfl ?_);refine Zk [] ?_;refine Z1 (i:=14) ef ef ?_;refine(S.Vs Eo.h (vs:=[_,_]) ⟨rfl,rfl,trivial⟩ (fun w hs=>Fo x.id y.id w) rfl ?_);refine Zk [] ?_;refine Z1 (i:=15) ef ef ?_;refine(S.buildSlice (pvs:=[(_,_),(_,_),(_,_)]) [_,_,_] Tryz.underlying66 Tryz.D2.h rfl rfl ⟨⟨rfl,rfl⟩,⟨rfl,rfl⟩,⟨rfl,rfl⟩,trivial⟩ rfl rfl ?_);intro b20;refine Zk [] ?_;refine Z1 (i:=16) ef ef ?_;refine(S.Vs Eo.h (vs:=[_]) ⟨rfl,trivial⟩ (fun w hs=>Qzb ⟨some ⟨b20,0,none⟩,3,3⟩ [X8 y.tier x.tier,X8 x.since y.since,X8 x.id y.id] w rfl (Qy (b:=b20) rfl (show 3≤maxLen by unfold maxLen;omega) w hs)) rfl ?_);refine Zk [17] (Zy ?_);refine ZD (Zy ?_);exact Zf ef Zq (⟨rfl,rfl⟩)
theorem Q4b(x y:It)(W:World):Um Tryz.prog 272 [.agg (itC x).toArray,.agg (itC y).toArray] W (.bool (bf x y)):=by
 refine Zbd Tryz.func272 rfl Tryz.ntmps272 fun w0 Γ=>Zsh (ZY 2 (Zp (S.box (cs:=[_,_,_]) rfl rfl rfl ?_)));intro b2;refine Zp (S.box (cs:=[_,_,_]) rfl rfl rfl ?_);intro b3;refine ZY 6 ?_;refine Zp (S.Vs Eo.h (vs:=[_,_]) ⟨rfl,rfl,trivial⟩ (fun w hs=>Bp x y w) rfl (ZY 4 ?_));exact Zf ef Zq (⟨by simp only[X2];rw[Qom],rfl⟩)
end PR
end Go.Proofs.YtdackcibfkkniaaGreatDoor
namespace Go.Proofs.YtdackcibfkkniaaGreatDoor
namespace PR
def Ok(L:List It)(c:Nat):Prop:=∀a p,L[c]?=some a→L[(c-1) / 2]?=some p→bf a p=false
def Heaped(n:Nat)(L:List It):Prop:=∀c,0<c→c<n→Ok L c
def Qss(n:Nat)(L:List It)(j:Nat):Prop:=(∀c,0<c→c<n→c≠j→Ok L c)∧(0<j→∀c,c<n→0<c→(c-1) / 2=j→∀a p,L[c]?=some a→L[(j-1) / 2]?=some p→bf a p=false)
def swp(L:List It)(i j:Nat)(x y:It):List It:=(L.set i y).set j x
theorem Qz5(L:List It)(i j:Nat)(x y:It):(swp L i j x y).length=L.length:=by simp[swp]
theorem swp_get{L:List It}{i j:Nat}{x y:It}(hi:L[i]?=some x)(hj:L[j]?=some y)(k:Nat):(swp L i j x y)[k]?=if k=j then some x else if k=i then some y else L[k]?:=by
 have h1:=(List.getElem?_eq_some_iff.1 hi).1;have h2:=(List.getElem?_eq_some_iff.1 hj).1;unfold swp;rw[List.getElem?_set,List.getElem?_set,List.length_set]
 by_cases e1:k=j
 ·subst e1;simp[h2]
 ·rw[if_neg (Ne.symm e1),if_neg e1]
  by_cases e2:k=i
  ·subst e2;simp[h1]
  ·rw[if_neg (Ne.symm e2),if_neg e2]
theorem Qts{L:List It}{i j:Nat}{x y:It}(hi:L[i]?=some x)(hj:L[j]?=some y):(swp L i j x y).Perm L:=by
 obtain⟨h1,e1⟩:=List.getElem?_eq_some_iff.1 hi;obtain⟨h2,e2⟩:=List.getElem?_eq_some_iff.1 hj;have:=List.set_set_perm h1 h2;rw[e1,e2]at this;exact this
theorem Qnm{n:Nat}{L:List It}(h:Qss n L 0):Heaped n L:=fun c h0 hc=>h.1 c h0 hc (by omega)
theorem Qtn{n:Nat}{L:List It}{j:Nat}(h:Qss n L j){x y:It}(hi:L[(j-1) / 2]?=some x)(hj:L[j]?=some y)(hb:bf y x=false):Heaped n L:=fun c h0 hc=>by
 by_cases e:c=j
 ·subst e;intro a p ha hp;rw[hj]at ha;rw[hi]at hp;cases ha;cases hp;exact hb
 ·exact h.1 c h0 hc e
theorem Q51{n:Nat}{L:List It}{j:Nat}(h:Qss n L j)(h0:0<j)(hn:j<n){x y:It}(hi:L[(j-1) / 2]?=some x)(hj:L[j]?=some y)(hb:bf y x=true):Qss n (swp L ((j-1) / 2) j x y) ((j-1) / 2):=by
 obtain⟨h1,h2⟩:=h
 refine⟨fun c c0 cn ce a p ha hp=>?_,fun i0 c cn c0 ce a p ha hp=>?_⟩
 ·rw[swp_get hi hj]at ha hp
  by_cases e1:c=j
  ·subst e1;rw[if_pos rfl]at ha;cases ha;rw[if_neg (by omega),if_pos rfl]at hp;cases hp;exact Q5u hb
  ·rw[if_neg e1,if_neg ce]at ha
   by_cases e2:(c-1) / 2=j
   ·rw[if_pos e2]at hp;cases hp;exact h2 h0 c cn c0 e2 a x ha hi
   ·rw[if_neg e2]at hp
    by_cases e3:(c-1) / 2=(j-1) / 2
    ·rw[if_pos e3]at hp;cases hp;have hx:=h1 c c0 cn e1 a x ha (by rw[e3];exact hi);cases hay:bf a y with
     | false=>rfl
     | true=>rw[Qyr hay hb]at hx;cases hx
    ·rw[if_neg e3]at hp;exact h1 c c0 cn e1 a p ha hp
 ·rw[swp_get hi hj]at ha hp;rw[if_neg (by omega),if_neg (by omega)]at hp;have hx:=h1 ((j-1) / 2) i0 (by omega) (by omega) x p hi hp
  by_cases e1:c=j
  ·rw[if_pos e1]at ha;cases ha;exact hx
  ·rw[if_neg e1,if_neg (by omega)]at ha;have:=h1 c c0 cn e1 a x ha (by rw[ce];exact hi);exact Q5t this hx
def Srt(l:List It):Prop:=l.Pairwise (fun a b=>bf a b=true)
def ins(x:It):List It→List It
 | []=>[x]
 | y::l=>if bf x y then x::y::l else y::ins x l
theorem N9(x:It):∀l,(ins x l).Perm (x::l)
 | []=>.refl _
 | y::l=>by
  unfold ins
  split
  ·exact .refl _
  ·exact((N9 x l).cons y).trans (.swap x y l)
theorem Qo9{x:It}:∀ {l:List It},Srt l→(∀y∈l,y.id≠x.id)→Srt (ins x l)
 | [],_,_=>by simp[ins,Srt]
 | y::l,h,hx=>by
  unfold ins;have h':=List.pairwise_cons.1 h
  split
  ·rename_i hb;refine List.pairwise_cons.2 ⟨fun z hz=>?_,h⟩
   rcases List.mem_cons.1 hz with rfl|hz
   ·exact hb
   ·exact Qyr hb (h'.1 z hz)
  ·rename_i hb;refine List.pairwise_cons.2 ⟨fun z hz=>?_,Qo9 h'.2 fun z hz=>hx z (List.mem_cons_of_mem _ hz)⟩
   rcases List.mem_cons.1 ((N9 x l).mem_iff.1 hz) with rfl|hz
   ·exact(Qys (hx y (List.mem_cons_self ..))).resolve_right hb
   ·exact h'.1 z hz
theorem T3:∀ {l m:List It},Srt l→Srt m→l.Perm m→l=m
 | [],m,_,_,hp=>(List.nil_perm.1 hp).symm
 | a::l,[],_,_,hp=>by have:=hp.length_eq;simp at this
 | a::l,b::m,hl,hm,hp=>by
  have hl':=List.pairwise_cons.1 hl;have hm':=List.pairwise_cons.1 hm
  have e:a=b:=by
   rcases List.mem_cons.1 (hp.mem_iff.1 (List.mem_cons_self ..)) with e|h1
   ·exact e
   ·rcases List.mem_cons.1 (hp.mem_iff.2 (List.mem_cons_self ..)) with e|h2
    ·exact e.symm
    ·have:=Q5u (hl'.1 b h2);rw[hm'.1 a h1]at this;cases this
  subst e;rw[T3 hl'.2 hm'.2 (List.Perm.cons_inv hp)]
def G1(L:List It)(M:List (Int×Value)):Prop:=(∀(i:Nat) x,L[i]?=some x→Q1 x.id M=some (.int .i64 i))∧(∀z v,Q1 z M=some v→∃(i:Nat) (x:It),L[i]?=some x∧x.id=z)
theorem G1.inj{L:List It}{M:List (Int×Value)}(h:G1 L M){i j:Nat}{x y:It}(hi:L[i]?=some x)(hj:L[j]?=some y)(e:x.id=y.id):i=j:=by
 have h1:=h.1 i x hi;rw[e,h.1 j y hj]at h1;simp only[Option.some.injEq,Value.int.injEq,true_and]at h1;omega
theorem G1.swap{L:List It}{M:List (Int×Value)}(h:G1 L M){i j:Nat}{x y:It}(hi:L[i]?=some x)(hj:L[j]?=some y):G1 (swp L i j x y) (Yd x.id (.int .i64 j) (Yd y.id (.int .i64 i) M)):=by
 refine⟨fun k z hk=>?_,fun z v hz=>?_⟩
 ·rw[swp_get hi hj]at hk;rw[Kc,Kc]
  by_cases e1:k=j
  ·rw[if_pos e1]at hk;cases hk;rw[if_pos rfl,e1]
  ·rw[if_neg e1]at hk
   by_cases e2:k=i
   ·rw[if_pos e2]at hk;cases hk;rw[if_neg (fun e=>e1 (e2.trans (h.inj hj hi e).symm)),if_pos rfl,e2]
   ·rw[if_neg e2]at hk;rw[if_neg (fun e=>e2 (h.inj hk hi e)),if_neg (fun e=>e1 (h.inj hk hj e))];exact h.1 k z hk
 ·rw[Kc,Kc]at hz
  by_cases e1:z=x.id
  ·exact⟨j,x,by rw[swp_get hi hj,if_pos rfl],e1.symm⟩
  ·rw[if_neg e1]at hz
   by_cases e2:z=y.id
   ·refine⟨i,y,?_,e2.symm⟩;rw[swp_get hi hj]
    by_cases e3:i=j
    ·rw[if_pos e3];subst e3;rw[hi]at hj;exact hj
    ·rw[if_neg e3,if_pos rfl]
   ·rw[if_neg e2]at hz;obtain⟨k,w,hk,hw⟩:=h.2 z v hz;refine⟨k,w,?_,hw⟩
    rw[swp_get hi hj,if_neg (fun e=>e2 ?_),if_neg (fun e=>e1 ?_)]
    ·exact hk
    ·subst e;rw[hi]at hk;cases hk;exact hw.symm
    ·subst e;rw[hj]at hk;cases hk;exact hw.symm
theorem G1.push{L:List It}{M:List (Int×Value)}(h:G1 L M){x:It}(hx:Q1 x.id M=none):G1 (L++[x]) (Yd x.id (.int .i64 L.length) M):=by
 refine⟨fun k z hk=>?_,fun z v hz=>?_⟩
 ·rw[Kc]
  by_cases e:k<L.length
  ·rw[List.getElem?_append_left e]at hk;have h1:=h.1 k z hk;rw[if_neg (fun e=>by rw[e,hx]at h1;cases h1)];exact h1
  ·rw[List.getElem?_append_right (by omega)]at hk;have hl:=(List.getElem?_eq_some_iff.1 hk).1;simp at hl;have e0:k=L.length:=by omega
   subst e0;simp at hk;subst hk;rw[if_pos rfl]
 ·rw[Kc]at hz
  by_cases e:z=x.id
  ·exact⟨L.length,x,by simp,e.symm⟩
  ·rw[if_neg e]at hz;obtain⟨k,w,hk,hw⟩:=h.2 z v hz;exact⟨k,w,by rw[List.getElem?_append_left (List.getElem?_eq_some_iff.1 hk).1];exact hk,hw⟩
section
variable {P:Program}{n:Nat}{ρ:Env}{Γ:List Assn}{ty:TypeId}{pos:String}{af:Array Edge}{gd:Option (Nat×Bool)}{ds:Option Tmp}
theorem Q6q{t yt:TypeId}{x y:Operand}(j:Nat)(hx:ev ρ x=some (.int .i64 ((j:Int)-1)))(hy:ev ρ y=some (.int .i64 2))(hj:j≤1000000):Qv P n ρ Γ ⟨ds,.binOp .quo t x y yt,ty,pos,af,gd⟩ (.int .i64 ((j-1) / 2:Nat)):=
 J2 hx hy fun w=>by
  have h0:((j:Int)-1).tdiv 2=(((j-1) / 2:Nat):Int):=by
   cases j with
   | zero=>rfl
   | succ j=>
    rw[Int.tdiv_eq_ediv_of_nonneg (by omega)];omega
  simp[binOp,Op.intDiv,h0,Ji (k:=.i64) (Y0 (x:=((j-1:Nat):Int) / 2) (by omega) (by omega))]
end
abbrev hpC(lv:SV)(m:Nat):Array Value:=#[lv.v,.map (some m)]
theorem Q7k(t m:Nat)(lv:SV):Spec Tryz.prog 268 [.pointer (some ⟨t,0,none⟩)] [blk t 219 (hpC lv m)] fun Γ v Θ=>v=.int .i64 lv.n∧Θ=blk t 219 (hpC lv m)::Γ:=by
 refine Zbd Tryz.func268 rfl Tryz.ntmps268 fun w0 Γ=>Zsh (ZY 8 (ZY 6 ?_));exact Zf ef Zq (⟨rfl,rfl⟩)
theorem Kh(t m:Nat)(lv:SV)(L:List It)(i j:Nat)(x y:It)(hi:L[i]?=some x)(hj:L[j]?=some y) :
  Spec Tryz.prog 269 [.pointer (some ⟨t,0,none⟩),.int .i64 i,.int .i64 j] [blk t 219 (hpC lv m),own lv 183 3 (L.flatMap itC)] fun Γ v Θ=>v=.bool (bf x y)∧Θ=blk t 219 (hpC lv m)::own lv 183 3 (L.flatMap itC)::Γ:=by
 refine Zbd Tryz.func269 rfl Tryz.ntmps269 fun w0 Γ=>Zsh ?_;have hil:=(List.getElem?_eq_some_iff.1 hi).1;have hjl:=(List.getElem?_eq_some_iff.1 hj).1;refine S.Yf lv fun hlen _ _=>?_;rw[Z3 Kt]at hlen;refine S.Qp lv (by omega) fun b off hb _ _ _=>(ZY 5 ?_);refine Zd ([blk t 219 (hpC lv m),own lv 183 3 (L.flatMap itC)]) [] (Zra 0 14) (ZY 5 ?_);refine Zw ef (Zx (i) ef (hb) ef (by omega)) ?_;refine Zw ef (X4 (lv) (i*3) [_,_,_] Eo.h rfl hb (by first|rfl|exact Nat.add_assoc _ _ _|omega) rfl (Y8 (enc:=itC) (sz:=3) (fun _=>rfl) hi)) (ZY 5 ?_);refine Zw ef (Zx (j) ef (hb) ef (by omega)) ?_;refine Zw ef (X4 (lv) (j*3) [_,_,_] Eo.h rfl hb (by first|rfl|exact Nat.add_assoc _ _ _|omega) rfl (Y8 (enc:=itC) (sz:=3) (fun _=>rfl) hj)) ?_;refine Z1 (i:=14) ef ef ?_;refine(S.Vs Eo.h (vs:=[_,_]) ⟨rfl,rfl,trivial⟩ (fun w hs=>Q4b x y w) rfl ?_);refine Zk [15] (Zy ?_);refine ZD (Zy ?_);exact Zf ef Zq (⟨rfl,rfl⟩)
theorem Q89(t m:Nat)(lv:SV)(L:List It)(M:List (Int×Value))(hat:G1 L M)(i j:Nat)(x y:It)(hi:L[i]?=some x)(hj:L[j]?=some y) :
  Spec Tryz.prog 271 [.pointer (some ⟨t,0,none⟩),.int .i64 i,.int .i64 j] [blk t 219 (hpC lv m),own lv 183 3 (L.flatMap itC),Qk m .u32 M] fun Γ _ Θ=>Θ=blk t 219 (hpC lv m)::own lv 183 3 ((swp L i j x y).flatMap itC)::Qk m .u32 (Yd x.id (.int .i64 j) (Yd y.id (.int .i64 i) M))::Γ:=by
 refine Zbd Tryz.func271 rfl Tryz.ntmps271 fun w0 Γ=>Zsh ?_;have hil:=(List.getElem?_eq_some_iff.1 hi).1;have hjl:=(List.getElem?_eq_some_iff.1 hj).1;refine S.Yf lv fun hlen _ _=>?_;rw[Z3 Kt]at hlen;refine S.Qp lv (by omega) fun b off hb _ _ _=>?_;have D9:=swp_get hi hj
 have hi':(swp L i j x y)[i]?=some y:=by
  rw[D9]
  by_cases e:i=j
  ·subst e;rw[if_pos rfl];rw[hi]at hj;exact hj
  ·rw[if_neg e,if_pos rfl]
 have hj':(swp L i j x y)[j]?=some x:=by rw[D9,if_pos rfl]
 have hll:=Qz5 L i j x y;have hxL:=hat.1 i x hi;have hyL:=hat.1 j y hj
 obtain⟨v2,hv2⟩:∃v,Q1 x.id (Yd y.id (.int .i64 i) M)=some v:=by
  rw[Kc]
  by_cases e:x.id=y.id
  ·rw[if_pos e];exact⟨_,rfl⟩
  ·rw[if_neg e];exact⟨_,hxL⟩
 refine Zy ?_;refine Zd ([blk t 219 (hpC lv m),own lv 183 3 (L.flatMap itC)]) [25] (Zra 0 9) (ZY 8 (Zy ?_));refine ZP 9 (Zra 10 15) ef (Z8 rfl) ef (ZY 5 ?_);refine Zw ef (Zx (j) ef (hb) ef (by omega)) ?_;refine Zw ef (X4 (lv) (j*3) [_,_,_] Eo.h rfl hb (by first|rfl|exact Nat.add_assoc _ _ _|omega) rfl (Y8 (enc:=itC) (sz:=3) (fun _=>rfl) hj)) (ZY 5 ?_);refine Zw ef (Zx (i) ef (hb) ef (by omega)) ?_;refine Zw ef (X4 (lv) (i*3) [_,_,_] Eo.h rfl hb (by first|rfl|exact Nat.add_assoc _ _ _|omega) rfl (Y8 (enc:=itC) (sz:=3) (fun _=>rfl) hi)) ?_;refine Zw ef (Zx (i) ef (hb) ef (by omega)) ?_;refine Z1 (i:=25) ef ef ?_;refine(S.Tx (lv) (i*3) Eo.h rfl rfl rfl rfl hb (by first|rfl|exact Nat.add_assoc _ _ _|omega) (by rw[Z3 Kt];show i*3+3≤_;omega) (Qb2 Kt hil y) ?_);refine ZL ([]) [26] ?_;refine Zw ef (Zx (j) ef (hb) ef (by omega)) ?_;refine Z1 (i:=27) ef ef ?_;refine(S.Tx (lv) (j*3) Eo.h rfl rfl rfl rfl hb (by first|rfl|exact Nat.add_assoc _ _ _|omega) (by rw[Z3 Kt,List.length_set];show j*3+3≤_;omega) (show _=(swp L i j x y).flatMap itC from Qb2 Kt (by rw[List.length_set];exact hjl) x) ?_);refine Zk [] ?_;refine ZD ?_;refine Zd ([blk t 219 (hpC lv m),own lv 183 3 ((swp L i j x y).flatMap itC)]) [26] (Zra 0 24) (ZY 8 (Zy ?_));refine Zw ef (Zx (i) ef (hb) ef (by omega)) (Zy ?_);refine Zw ef (Zo (lv) (i*3) ef (hb) (Y8 (enc:=itC) (sz:=3) (fun _=>rfl) hi' 0 _ rfl)) (ZY 8 (Zy ?_));refine Zw ef (Zx (j) ef (hb) ef (by omega)) (Zy ?_);refine Zw ef (Zo (lv) (j*3) ef (hb) (Y8 (enc:=itC) (sz:=3) (fun _=>rfl) hj' 0 _ rfl)) ?_;refine ZP 24 [] ef (Z8 rfl) ef ?_;refine ZP 25 [] ef (Z8 rfl) ef ?_;refine Z1 (i:=26) ef ef ?_;refine(S.mapEntry Tryz.underlying44 Tryz.underlying31 rfl rfl rfl (hyL) rfl ?_);intro s58;refine ZL ([]) [27] (Zy ?_);refine Z1 (i:=28) ef ef ?_;refine(S.entryStore rfl rfl rfl ?_);refine Zk [] ?_;refine Z1 (i:=29) ef ef ?_;refine(S.mapEntry Tryz.underlying44 Tryz.underlying31 rfl rfl rfl (hv2) rfl ?_);intro s60;refine Zk [30] (Zy ?_);refine Z1 (i:=31) ef ef ?_;refine(S.entryStore rfl rfl rfl ?_);refine Zk [] ?_;refine ZD ?_;exact Zfn ef Zq (rfl)
theorem Q2d(t m:Nat)(lv:SV)(L:List It)(M:List (Int×Value))(x:It)(hl:L.length≤1000) :
  Spec Tryz.prog 270 [.pointer (some ⟨t,0,none⟩),.iface 183 (.agg (itC x).toArray)] [blk t 219 (hpC lv m),own lv 183 3 (L.flatMap itC),Qk m .u32 M] fun Γ _ Θ=>∃lv':SV,Θ=blk t 219 (hpC lv' m)::own lv' 183 3 ((L++[x]).flatMap itC)::Qk m .u32 (Yd x.id (.int .i64 L.length) M)::Γ:=by
 refine Zbd Tryz.func270 rfl Tryz.ntmps270 fun w0 Γ=>Zsh ?_;refine S.Yf lv fun hlen _ _=>?_;rw[Z3 Kt]at hlen;have hll:lv.n=L.length:=by omega
 refine ZY 3 (Zv (Qlk (by rw[Tryz.underlying183]) rfl) (ZY 3 (Zp (S.alloc Tryz.z183.h rfl ?_))));intro b4;refine Zp (Zs ef ef (cs':=[_,_,_]) ef (ZY 6 (ZT ef (Zy ?_))));refine Zd ([blk t 219 (hpC lv m),blk b4 183 (itC x).toArray]) [11] (Zra 0 11) (ZY 8 (ZY 3 ?_));refine Z1 (i:=11) ef ef ?_;refine(S.mapUpdate Tryz.underlying44 Tryz.underlying31 rfl rfl rfl rfl ?_);rw[show (lv.n:Int)=L.length by omega];refine ZL ([]) [] ?_;refine ZD ?_;refine Zd ([blk t 219 (hpC lv m),blk b4 183 (itC x).toArray]) [10] (Zra 0 6) (ZY 6 ?_);refine Z1 (i:=6) ef ef ?_;refine(S.buildSlice (pvs:=[(_,_)]) [_,_,_] Tryz.underlying184 Tryz.Qge.h rfl rfl ⟨⟨rfl,rfl⟩,trivial⟩ rfl rfl ?_);intro b29;refine Zk [] ?_;refine Z1 (i:=7) ef ef ?_;refine(S.Qu (s:=lv) (1) (itC x) Tryz.underlying184 Tryz.Qge.h rfl rfl rfl (Qy (b:=b29) rfl (by unfold maxLen;omega)) (by first|rfl|exact Ql _) (⟨by omega,by omega⟩) rfl ?_);intro lv' hlv';rw[Xg itC L x];refine Zk [8,9] (ZY 2 ?_);refine Z1 (i:=10) ef ef ?_;refine(S.store (cs':=[_,_]) Eo.h rfl rfl rfl rfl rfl ?_);refine ZL ([]) [] ?_;refine ZD ?_;exact Zfn ef Zq (⟨lv',rfl⟩)
abbrev HB(t m:Nat)(lv:SV)(L:List It)(M:List (Int×Value))(Γ:List Assn):List Assn:=blk t 219 (hpC lv m)::own lv 183 3 (L.flatMap itC)::Qk m .u32 M::Γ
theorem Zee(t m:Nat)(lv:SV)(n:Nat)(L:List It)(M:List (Int×Value))(j:Nat)(hj:j<n)(hn:n≤L.length)(hl:L.length≤1000)(hat:G1 L M)(hu:Qss n L j) :
  Spec Tryz.prog 168 [.iface 221 (.pointer (some ⟨t,0,none⟩)),.int .i64 j] [blk t 219 (hpC lv m),own lv 183 3 (L.flatMap itC),Qk m .u32 M] fun Γ _ Θ=>
   ∃L' M',L'.Perm L∧G1 L' M'∧Heaped n L'∧(∀k,n≤k→L'[k]?=L[k]?)∧Θ=HB t m lv L' M' Γ:=by
 refine Zbd Tryz.func168 rfl Tryz.ntmps168 fun w0 Γ=>Zsh (Zy ?_);refine Zl (fun mm ρ' Γ'=>∃L' M',mm<n∧L'.Perm L∧G1 L' M'∧Qss n L' mm∧(∀k,n≤k→L'[k]?=L[k]?)∧ρ'=[(0,.iface 221 (.pointer (some ⟨t,0,none⟩))),(1,.int .i64 mm)]∧Γ'=HB t m lv L' M' Γ) (m:=_) (⟨L,M,hj,.refl _,hat,hu,fun _ _=>rfl,rfl,rfl⟩) ?_;rintro j ρ' Γ' ⟨L',M',hj',Qpd,hat',hu',Qwu,rfl,rfl⟩;have hll:L'.length=L.length:=Qpd.length_eq;obtain⟨x,hx⟩:=Yv (l:=L') (i:=(j-1) / 2) (by omega);obtain⟨y,hy⟩:=Yv (l:=L') (i:=j) (by omega);refine ZY 4 (Zv (Zm ef ef) (Zv (Q6q j rfl rfl (by omega)) (ZY 8 (Zy ?_))))
 refine Zb 11 ef (fun hg1_3=>?_) (fun hg1_3=>?_)
 ·refine ZY 8 (Zy ?_);exact Zfn ef Zq (⟨L',M',Qpd,hat',by first|exact Qnm ((show j=0 by omega) ▸ hu')|exact Qtn hu' hx hy (by simpa using h1),Qwu,rfl⟩)
 ·refine ZY 3 ?_;refine Zg ef ef ef (S.Qpv (f:=269) (vs:=[_,_]) (by kernel_rfl) Eo.h rfl ⟨rfl,rfl,trivial⟩ (Kh t m lv L' j ((j-1) / 2) y x hy hx) rfl ?_);rintro v Θ ⟨rfl,rfl⟩;refine ZY 3 ?_
  refine Zi ef (fun h1=>?_) (fun h1=>?_)
  ·refine Zy ?_;exact Zfn ef Zq (⟨L',M',Qpd,hat',by first|exact Qnm ((show j=0 by omega) ▸ hu')|exact Qtn hu' hx hy (by simpa using h1),Qwu,rfl⟩)
  ·refine ZY 6 ?_;refine Zp (S.Qpv (f:=271) (vs:=[_,_]) (by kernel_rfl) Eo.h rfl ⟨rfl,rfl,trivial⟩ (Q89 t m lv L' M' hat' ((j-1) / 2) j x y hx hy) rfl ?_);rintro v Θ rfl;refine ZY 5 ?_;exact ZX ((j-1) / 2) (⟨swp L' ((j-1) / 2) j x y,_,by omega,(Qts hx hy).trans Qpd,hat'.swap hx hy,Q51 hu' (by omega) hj' hx hy (by simpa using h1),fun k hk=>by rw[swp_get hx hy,if_neg (by omega),if_neg (by omega)];exact Qwu k hk,rfl,rfl⟩) (by omega)
theorem Q3a(t m:Nat)(lv:SV)(L:List It)(M:List (Int×Value))(x:It)(hl:L.length≤999)(hat:G1 L M)(hh:Heaped L.length L)(hx:Q1 x.id M=none) :
  Spec Tryz.prog 140 [.iface 221 (.pointer (some ⟨t,0,none⟩)),.iface 183 (.agg (itC x).toArray)] [blk t 219 (hpC lv m),own lv 183 3 (L.flatMap itC),Qk m .u32 M] fun Γ _ Θ=>
   ∃lv' L' M',L'.Perm (x::L)∧G1 L' M'∧Heaped L'.length L'∧Θ=HB t m lv' L' M' Γ:=by
 refine Zbd Tryz.func140 rfl Tryz.ntmps140 fun w0 Γ=>Zsh (ZY 4 ?_);refine Zp (S.Qpv (f:=270) (vs:=[_]) (by kernel_rfl) Eo.h rfl ⟨rfl,trivial⟩ (Q2d t m lv L M x (by omega)) rfl ?_);rintro v Θ ⟨lv',rfl⟩;refine S.Yf lv' fun hlen _ _=>?_;rw[Z3 Kt]at hlen;simp only[List.length_append,List.length_cons,List.length_nil]at hlen;refine ZY 4 ?_;refine Zp (S.Qpv (f:=268) (vs:=[]) (by kernel_rfl) Eo.h rfl trivial (Q7k t m lv') rfl ?_);rintro v Θ ⟨rfl,rfl⟩;refine Zv (Zm ef ef) ?_;rw[show ((lv'.n:Int)-1)=((L.length:Nat):Int) by omega];refine Zp (Zc1 Ze (Zee t m lv' (L.length+1) (L++[x]) (Yd x.id (.int .i64 L.length) M) L.length (by omega) (by simp) (by simp;omega) (hat.push hx) ⟨fun c c0 cn ce=>(by intro a p ha hp;rw[List.getElem?_append_left (by omega)]at ha hp;exact hh c c0 (by omega) a p ha hp),fun _ c cn c0 ce=>by omega⟩) ?_);rintro v Θ ⟨L',M',hp,hat',hh',_,rfl⟩;refine Zy ?_;exact Zfn ef Zq (⟨lv',L',M',hp.trans (List.perm_append_singleton x L),hat',by rw[hp.length_eq];simpa using hh',rfl⟩)
def HI(pa:Option Addr):Option (List It)→Assn
 | none=>fun _=>pa=none
 | some l=>fun h=>∃t m lv L M,pa=some ⟨t,0,none⟩∧L.Perm l∧Srt l∧Heaped L.length L∧G1 L M∧stars [blk t 219 (hpC lv m),own lv 183 3 (L.flatMap itC),Qk m .u32 M] h
section
variable {pa:Option Addr}{l:List It}
theorem Ent.Tf{t m:Nat}{lv:SV}{L:List It}{M:List (Int×Value)}(hp:L.Perm l)(hs:Srt l)(hh:Heaped L.length L)(ha:G1 L M)(Γ:List Assn):Ent (HB t m lv L M Γ) (HI (some ⟨t,0,none⟩) (some l)::Γ):=fun h hh'=>by
 have:=(Y6 (Γ:=[blk t 219 (hpC lv m),own lv 183 3 (L.flatMap itC),Qk m .u32 M]) (Δ:=Γ)).1 hh';exact Ent.W9 Γ (fun y hy=>⟨t,m,lv,L,M,rfl,hp,hs,hh,ha,hy⟩) h this
theorem Ent.Qlq(Γ:List Assn):Ent Γ (HI none none::Γ):=fun h hs=>⟨HL.emp,h,HL.Ul _,HL.U6 _,HL.le.refl _,rfl,hs⟩
theorem Sat.Qfx{w:World}{Γ:List Assn}(hs:Sat w (HI pa (some l)::Γ)):∃t m lv L M,pa=some ⟨t,0,none⟩∧L.Perm l∧Srt l∧Heaped L.length L∧G1 L M∧lv.n=L.length∧Sat w (HB t m lv L M Γ):=by
 obtain⟨h,l0,h1,h2,d,l1,l2,⟨t,m,lv,L,M,e1,e2,e3,e4,e5,e6⟩,s⟩:=hs;refine⟨t,m,lv,L,M,e1,e2,e3,e4,e5,?_,h,l0,(Y6 (Γ:=[blk t 219 (hpC lv m),own lv 183 3 (L.flatMap itC),Qk m .u32 M]) (Δ:=Γ)).2 ⟨h1,h2,d,l1,l2,e6,s⟩⟩;obtain⟨_,k2,_,_,_,_,_,k3,_,_,_,p,_⟩:=e6;have:=p.1;rw[Z3 Kt]at this;omega
theorem Spec.Qfx{P:Program}{f:FuncId}{args:List Value}{pre:List Assn}{post:List Assn→Value→List Assn→Prop}(h:∀t m lv L M,pa=some ⟨t,0,none⟩→L.Perm l→Srt l→Heaped L.length L→G1 L M→lv.n=L.length→Spec P f args (HB t m lv L M pre) post):Spec P f args (HI pa (some l)::pre) post:=by
 intro Γ w hs;obtain⟨t,m,lv,L,M,e1,e2,e3,e4,e5,e6,hs'⟩:=Sat.Qfx hs;exact h t m lv L M e1 e2 e3 e4 e5 e6 Γ w hs'
theorem Spec.Qlq{P:Program}{f:FuncId}{args:List Value}{pre:List Assn}{post:List Assn→Value→List Assn→Prop}(h:pa=none→Spec P f args pre post):Spec P f args (HI pa none::pre) post:=by
 intro Γ w hs;have e:pa=none:=by obtain⟨x,_,p⟩:=hs.head;exact p
 exact h e Γ w (hs.Qh (Ent.drop _ _))
end
theorem Q9h:Spec Tryz.prog 108 [] [] fun Γ v Θ=>∃pa,v=.pointer pa∧Θ=HI pa (some [])::Γ:=by
 refine Zbd Tryz.func108 rfl Tryz.ntmps108 fun w0 Γ=>Zsh (ZY 6 (Zp (S.makeMap .u32 rfl ?_)));intro b1;refine Zv (Q3 (pvs:=[(_,_)]) [_,_] Tryz.Zed.h Tryz.Zeo.h ⟨⟨rfl,rfl⟩,trivial⟩ rfl) ?_;refine Zv (Q3 (pvs:=[(_,_)]) [_,_] Tryz.Zec.h Tryz.Zen.h ⟨⟨rfl,rfl⟩,trivial⟩ rfl) (Zp (S.box (cs:=[_,_]) rfl rfl rfl ?_));intro b4;refine ZY 3 ?_;refine S.Qh (show Ent _ (own SV.nil 183 3 (([]:List It).flatMap itC)::_) from Ent.Ye 183 3) ?_;refine S.Qh ((Sub.Qh:Ent _ (HB b4 b1 SV.nil [] [] Γ)).trans (Ent.Tf (.refl _) List.Pairwise.nil (fun c c0 cn=>by simp at cn) ⟨fun i x h=>by simp at h,fun z v h=>by simp[Q1]at h⟩ Γ)) ?_;exact Zf ef Zq (⟨some ⟨b4,0,none⟩,rfl,rfl⟩)
abbrev HSt:=Option (List It)
def P1(id:Int)(l:List It):Bool:=l.any fun x=>decide (x.id=id)
def Zgs(id:Int):HSt→Bool
 | none=>false
 | some l=>P1 id l
def Hx(x:It):HSt→Int×HSt
 | none=>(6,none)
 | some l=>if P1 x.id l then (7,some l) else (0,some (ins x l))
def Cu:HSt→Nat
 | none=>0
 | some l=>l.length
theorem Qej{id:Int}{L l:List It}(h:L.Perm l):P1 id L=P1 id l:=by
 unfold P1;rw[Bool.eq_iff_iff,List.any_eq_true,List.any_eq_true];exact⟨fun⟨x,h1,h2⟩=>⟨x,h.mem_iff.1 h1,h2⟩,fun⟨x,h1,h2⟩=>⟨x,h.mem_iff.2 h1,h2⟩⟩
theorem G1.has{L:List It}{M:List (Int×Value)}(h:G1 L M)(id:Int):(Q1 id M).isSome=P1 id L:=by
 unfold P1;rw[Bool.eq_iff_iff,List.any_eq_true]
 constructor
 ·intro h1;obtain⟨v,hv⟩:=Option.isSome_iff_exists.1 h1;obtain⟨i,x,h2,h3⟩:=h.2 id v hv;exact⟨x,List.mem_of_getElem? h2,decide_eq_true h3⟩
 ·rintro ⟨x,h1,h2⟩;obtain⟨i,hi⟩:=List.getElem?_of_mem h1;rw[←of_decide_eq_true h2,h.1 i x hi];rfl
theorem Qtf(id:Int):Spec Tryz.prog 167 [.pointer none,.int .u32 id] [] fun Γ v Θ=>v=.tuple #[.int .i64 0,.bool false]∧Θ=Γ:=by
 refine Zbd Tryz.func167 rfl Tryz.ntmps167 fun w0 Γ=>Zsh (ZY 8 (ZY 3 (ZT ef (ZY 6 ?_))));exact Zf ef Zq (⟨rfl,rfl⟩)
theorem Qzw(t m:Nat)(lv:SV)(M:List (Int×Value))(id:Int):Spec Tryz.prog 167 [.pointer (some ⟨t,0,none⟩),.int .u32 id] [blk t 219 (hpC lv m),Qk m .u32 M] fun Γ v Θ=>
  v=.tuple #[(Q1 id M).getD (.int .i64 0),.bool (Q1 id M).isSome]∧Θ=blk t 219 (hpC lv m)::Qk m .u32 M::Γ:=by
 refine Zbd Tryz.func167 rfl Tryz.ntmps167 fun w0 Γ=>Zsh (ZY 8 (ZY 3 (ZF ef (ZY 8 (Zy ?_)))));refine Zv (E6 ((Q1 id M).getD (.int .i64 0)) ((Q1 id M).isSome) Tryz.underlying44 Tryz.underlying31 Tryz.zv3.h rfl rfl rfl (by cases Q1 id M <;> rfl)) (ZY 8 (ZY 6 ?_));exact Zf ef Zq (⟨rfl,rfl⟩)
theorem Zc7(pa:Option Addr)(st:HSt)(id:Int):Spec Tryz.prog 139 [.pointer pa,.int .u32 id] [HI pa st] fun Γ v Θ=>v=.bool (Zgs id st)∧Θ=HI pa st::Γ:=by
 cases st with
 | none=>
  refine Spec.Qlq fun e=>?_;subst e
  have h0:Spec Tryz.prog 139 [.pointer none,.int .u32 id] [] fun Γ v Θ=>v=.bool false∧Θ=Γ:=by
   refine Zbd Tryz.func139 rfl Tryz.ntmps139 fun w0 Γ=>Zsh (ZY 8 (Zp (Zcp Ze (Qtf id) (ZY 8 (ZY 4 ?_)))));exact Zf ef Zq (⟨rfl,rfl⟩)
  refine h0.weaken fun Γ=>⟨Γ,Ent.refl _,?_⟩;rintro v Θ ⟨rfl,rfl⟩;exact⟨_,⟨rfl,rfl⟩,Ent.Qlq _⟩
 | some l=>
  refine Spec.Qfx fun t m lv L M e1 e2 e3 e4 e5 e6=>?_;subst e1
  have h0:Spec Tryz.prog 139 [.pointer (some ⟨t,0,none⟩),.int .u32 id] [blk t 219 (hpC lv m),Qk m .u32 M] fun Γ v Θ=>v=.bool (Q1 id M).isSome∧Θ=blk t 219 (hpC lv m)::Qk m .u32 M::Γ:=by
   refine Zbd Tryz.func139 rfl Tryz.ntmps139 fun w0 Γ=>Zsh (ZY 8 (Zp (Zcp Ze (Qzw t m lv M id) (ZY 8 (ZY 4 ?_)))));exact Zf ef Zq (⟨rfl,rfl⟩)
  refine h0.weaken fun Γ=>⟨own lv 183 3 (L.flatMap itC)::Γ,by simp only[List.cons_append,List.nil_append];exact Sub.Qh,?_⟩;rintro v Θ ⟨rfl,rfl⟩;refine⟨_,⟨by rw[e5.has,Qej e2];rfl,rfl⟩,?_⟩;exact(Sub.Qh:Ent _ (HB t m lv L M Γ)).trans (Ent.Tf e2 e3 e4 e5 Γ)
theorem Spec.Qw6{pa:Option Addr}{l:List It}{P:Program}{f:FuncId}{args:List Value}{pre:List Assn}{post:List Assn→Value→List Assn→Prop}(h:∀t,pa=some ⟨t,0,none⟩→Spec P f args (HI pa (some l)::pre) post):Spec P f args (HI pa (some l)::pre) post:=by
 intro Γ w hs
 have:∃t,pa=some ⟨t,0,none⟩:=by
  obtain⟨x,_,t,_,_,_,_,e,_⟩:=hs.head;exact⟨t,e⟩
 obtain⟨t,e⟩:=this;exact h t e Γ w hs
theorem S.Qw7{n:Nat}{md:Bool}{w0:WM md}{ρ:Env}{Γ Δ:List Assn}{φ:Act→World→Prop}(t:Nat)(l:List It)[p:Pick (HI (some ⟨t,0,none⟩) (some l)) Γ Δ](k:∀m lv L M,L.Perm l→Srt l→Heaped L.length L→G1 L M→lv.n=L.length→S n w0 ρ (HB t m lv L M Δ) φ):S n w0 ρ Γ φ:=by
 intro a w ha hs hx;obtain⟨t',m,lv,L,M,e1,e2,e3,e4,e5,e6,hs'⟩:=Sat.Qfx (hs.Qh p.Qh);cases e1;exact k m lv L M e2 e3 e4 e5 e6 a w ha hs' hx
theorem Qmj{x:It}{l:List It}(h:P1 x.id l=false):∀y∈l,y.id≠x.id:=fun y hy e=>by
 unfold P1 at h;rw[List.any_eq_false]at h;exact h y hy (decide_eq_true e)
theorem Q39(pa:Option Addr)(st:HSt)(x:It)(hl:Cu st≤999):Spec Tryz.prog 109 [.pointer pa,.agg (itC x).toArray] [HI pa st] fun Γ v Θ=>v=.int .i64 (Hx x st).1∧Θ=HI pa (Hx x st).2::Γ:=by
 cases st with
 | none=>
  refine Spec.Qlq fun e=>?_;subst e
  have h0:Spec Tryz.prog 109 [.pointer none,.agg (itC x).toArray] [] fun Γ v Θ=>v=.int .i64 6∧Θ=Γ:=by
   refine Zbd Tryz.func109 rfl Tryz.ntmps109 fun w0 Γ=>Zsh (ZY 2 (Zp (S.box (cs:=[_,_,_]) rfl rfl rfl ?_)));intro b3;refine ZY 8 (ZY 2 (ZT ef (ZY 5 ?_)));exact Zf ef Zq (⟨rfl,rfl⟩)
  refine h0.weaken fun Γ=>⟨Γ,Ent.refl _,?_⟩;rintro v Θ ⟨rfl,rfl⟩;exact⟨_,⟨rfl,rfl⟩,Ent.Qlq _⟩
 | some l=>
  refine Spec.Qw6 fun t e=>?_;subst e;simp only[Cu]at hl;refine Zbd Tryz.func109 rfl Tryz.ntmps109 fun w0 Γ=>Zsh (ZY 2 (Zp (S.box (cs:=[_,_,_]) rfl rfl rfl ?_)));intro b3;refine ZY 8 (ZY 2 (ZF ef (ZY 5 ?_)));refine Zp (Zcp Ze (Zc7 (some ⟨t,0,none⟩) (some l) x.id) (ZY 2 ?_))
  refine Zi ef (fun h2=>?_) (fun h2=>?_)
  ·have h2':P1 x.id l=true:=h2;refine ZY 5 ?_;exact Zf ef Zq (⟨by simp only[X2,Hx];rw[if_pos h2'],by simp only[Hx];rw[if_pos h2']⟩)
  ·refine S.Qw7 t l fun m lv L M hp hs hh hat hn=>?_;have hll:=hp.length_eq;have Vb:P1 x.id l=false:=h2
   have Ub:Q1 x.id M=none:=by
    have:=hat.has x.id;rw[Qej hp,Vb]at this;exact Option.not_isSome_iff_eq_none.1 (by rw[this];simp)
   have Zfi:=Qo9 hs (Qmj Vb);have hpr:Hx x (some l)=(0,some (ins x l)):=by simp only[Hx,Vb];rfl
   refine ZY 2 ?_;refine Zd ([blk b3 183 (itC x).toArray]) [] (Zra 0 6) (ZY 3 ?_);refine Zw ef (Ht (by rw[Tryz.underlying221]) rfl) (Zy ?_);refine Zw ef (Ht (by rw[Tryz.underlying183]) rfl) ?_;refine Z1 (i:=6) ef ef ?_;refine  (Zc1 Ze (Q3a t m lv L M x (by omega) hat hh Ub) ?_);rintro v Θ ⟨lv',L',M',hp',hat',hh',rfl⟩;refine S.Qh (Ent.Tf (l:=ins x l) (hp'.trans ((hp.cons x).trans (N9 x l).symm)) Zfi hh' hat' _) ?_;refine Zk [] ?_;refine ZD (ZY 5 ?_);exact Zf ef Zq (⟨by simp only[X2];rw[hpr],by rw[hpr]⟩)
theorem Q14(l:List It):Hf (l.flatMap itC)=true:=List.all_eq_true.2 fun u hu=>by
 obtain⟨x,_,h⟩:=List.mem_flatMap.1 hu;simp only[itC,List.mem_cons,List.not_mem_nil,or_false]at h;rcases h with rfl|rfl|rfl <;> rfl
theorem Qox(x y:It):Go.Proofs.ltOf Qqy x y=bf x y:=Qom x y
theorem Q55:Go.Sort.SWO (Go.Proofs.ltOf Qqy) where
 irrefl x:=by rw[Qox];exact Q8y x
 trans x y z h1 h2:=by rw[Qox]at *;exact Qyr h1 h2
 ntrans x y z h1 h2:=by rw[Qox]at *;exact Q5t h1 h2
theorem Qg2(s:SV)(l:List It)(hl:l.length≤1000000):Spec Tryz.prog 142 [s.v,.func (.func 143) #[] #[]] [own s 183 3 (l.flatMap itC)] fun Γ _ Θ=>
  ∃l':List It,l'.Perm l∧l'.Pairwise (fun a b=>bf b a=false)∧Θ=own s 183 3 (l'.flatMap itC)::Γ:=by
 have h:=Mq Tryz.Q0d 3 Tryz.isAgg183 Tryz.sizeOf183 itC Kt (by omega) (fun x v hv=>by simp only[itC,List.mem_cons,List.not_mem_nil,or_false]at hv;rcases hv with rfl|rfl|rfl <;> rfl) Qqy Q55 143 (enters_of Tryz.func143 (by kernel_rfl) rfl) Bp 183 s l (by omega);simp only[Qox]at h;exact h
theorem S.Q1b{n:Nat}{md:Bool}{w0:WM md}{ρ:Env}{Γ:List Assn}{φ:Act→World→Prop}(s:SV){e:TypeId}{sz:Nat}{xs:List Value}{Δ:List Assn}[h:Wx Γ s e sz xs Δ](k:(s.a.isNone=true→s.n=0)→S n w0 ρ Γ φ):S n w0 ρ Γ φ:=by
 intro a w ha hs hx;obtain⟨x,_,p⟩:=(hs.Qh h.Qh).head;refine k (fun hn=>?_) a w ha hs hx
 rcases p.2 with ⟨_,h2,_⟩|⟨_,_,_,h1,_⟩
 ·exact h2
 ·rw[h1]at hn;cases hn
theorem Qsx(s:SV)(l:List It)(hl:l.length≤1000000):Spec Tryz.prog 141 [s.v] [own s 183 3 (l.flatMap itC)] fun Γ v Θ=>
  ∃u:SV,v=u.v∧Θ=own u 183 3 (l.flatMap itC)::own s 183 3 (l.flatMap itC)::Γ:=by
 refine Zbd Tryz.func141 rfl Tryz.ntmps141 fun w0 Γ=>Zsh ?_;refine S.Yf s fun hlen _ _=>?_;rw[Z3 Kt]at hlen;refine S.Q1b s fun Qjg=>(ZY 8 (ZY 2 ?_))
 refine Zi ef (fun h1=>?_) (fun h1=>?_)
 ·refine ZY 5 ?_;obtain rfl:l=[]:=List.eq_nil_of_length_eq_zero (by have:=Qjg (by simpa using h1);omega);refine S.Qh (show Ent _ (own SV.nil 183 3 (([]:List It).flatMap itC)::_) from Ent.Ye 183 3) ?_;exact Zf ef Zq (⟨SV.nil,rfl,rfl⟩)
 ·refine ZY 3 (Zp (S.Fk Tryz.underlying184 Tryz.Qge.h rfl ?_));intro b5 hb5;refine Zy ?_;refine Zp (S.Qu (s:=b5) (s.n) (l.flatMap itC) Tryz.underlying184 Tryz.Qge.h rfl rfl rfl (fun w hs=>Wx.L3 inferInstance hs) (Q14 l) (⟨by omega,by omega⟩) rfl ?_);intro u hu;rw[List.nil_append];refine ZY 3 ?_;exact Zf ef Zq (⟨u,rfl,rfl⟩)
def stL:HSt→List It
 | none=>[]
 | some l=>l
theorem Q58{L:List It}(G2:L.Pairwise (fun a b=>a.id≠b.id))(h:L.Pairwise (fun a b=>bf b a=false)):Srt L:=by
 have:=G2.and h;exact this.imp fun⟨h1,h2⟩=>(Qys h1).resolve_right (by rw[h2];simp)
theorem G1.nodup{L:List It}{M:List (Int×Value)}(h:G1 L M):(L.map (·.id)).Nodup:=by
 rw[List.nodup_iff_pairwise_ne,List.pairwise_map,List.pairwise_iff_getElem];intro i j hi hj hij e;have:=h.inj (List.getElem?_eq_getElem hi) (List.getElem?_eq_getElem hj) e;omega
theorem Q9e(pa:Option Addr)(st:HSt)(hl:Cu st≤1000):Spec Tryz.prog 110 [.pointer pa] [HI pa st] fun Γ v Θ=>∃u:SV,v=u.v∧Θ=own u 183 3 ((stL st).flatMap itC)::HI pa st::Γ:=by
 cases st with
 | none=>
  refine Spec.Qlq fun e=>?_;subst e
  have h0:Spec Tryz.prog 110 [.pointer none] [] fun Γ v Θ=>v=.slice none 0 0∧Θ=Γ:=by
   refine Zbd Tryz.func110 rfl Tryz.ntmps110 fun w0 Γ=>Zsh (ZY 8 (ZY 2 (ZT ef (ZY 5 ?_))));exact Zf ef Zq (⟨rfl,rfl⟩)
  refine h0.weaken fun Γ=>⟨Γ,Ent.refl _,?_⟩;rintro v Θ ⟨rfl,rfl⟩;exact⟨_,⟨SV.nil,rfl,rfl⟩,(Ent.Qlq _).trans (Ent.Ye _ _)⟩
 | some l=>
  refine Spec.Qw6 fun t e=>?_;subst e;simp only[Cu]at hl;refine Zbd Tryz.func110 rfl Tryz.ntmps110 fun w0 Γ=>Zsh ?_;refine S.Qw7 t l fun m lv L M hp hs hh hat hn=>?_;have hll:=hp.length_eq;refine ZY 8 (ZY 2 (ZF ef (ZY 8 (Zp (Zc1 Ze (Qsx lv L (by omega)) ?_)))));rintro v Θ ⟨u,rfl,rfl⟩;refine ZY 5 (Zp (Zc1 Ze (Qg2 u L (by omega)) ?_));rintro v Θ ⟨L',hp',hs',rfl⟩
  have G2:L'.Pairwise (fun a b=>a.id≠b.id):=by
   have:=(hp'.symm.map (fun x:It=>x.id)).nodup hat.nodup
   rwa [List.nodup_iff_pairwise_ne,List.pairwise_map]at this
  obtain rfl:L'=l:=T3 (Q58 G2 hs') hs (hp'.trans hp);refine S.Qh ((Sub.Qh:Ent _ (HB t m lv L M (own u 183 3 (L'.flatMap itC)::Γ))).trans (Ent.Tf (t:=t) hp hs hh hat _)) (ZY 7 ?_);exact Zf ef Zq (⟨u,rfl,show _=own u 183 3 (L'.flatMap itC)::HI (some ⟨t,0,none⟩) (some L')::Γ from rfl⟩)
end PR
end Go.Proofs.YtdackcibfkkniaaGreatDoor
set_option linter.unusedVariables false
namespace Go.Proofs.YtdackcibfkkniaaGreatDoor
namespace PL
def inI(x:Int):Int:=if x<0 then 0 else if 1099511627776<x then 1099511627776 else x
def Qj9(a b:Int):Int:=inI (inI a+inI b)
theorem Qbq(x:Int):0≤inI x∧inI x≤1099511627776:=by unfold inI;split <;> (try split) <;> omega
theorem Q7g{x:Int}(h:0≤x)(h2:x≤1099511627776):inI x=x:=by unfold inI;rw[if_neg (by omega),if_neg (by omega)]
theorem Q17(x:Int):inI (inI x)=inI x:=Q7g (Qbq x).1 (Qbq x).2
abbrev Ce:=Int×Int
def ltC(a b:Ce):Bool:=decide (a.2<b.2∨a.2=b.2∧a.1<b.1)
theorem Q1r(a:Ce):ltC a a=false:=decide_eq_false (by omega)
theorem Qvv{a b c:Ce}(h1:ltC a b=true)(h2:ltC b c=true):ltC a c=true:=by
 simp only[ltC,decide_eq_true_eq]at *;omega
theorem Q66{a b c:Ce}(h1:ltC a b=false)(h2:ltC b c=false):ltC a c=false:=by
 simp only[ltC,decide_eq_false_iff_not]at *;omega
theorem Q67{a b:Ce}(h1:ltC a b=true):ltC b a=false:=by
 simp only[ltC,decide_eq_true_eq,decide_eq_false_iff_not]at *;omega
theorem Qoy{a b:Ce}(h:a.1≠b.1):ltC a b=true∨ltC b a=true:=by
 simp only[ltC,decide_eq_true_eq];omega
def Qri(x:Ce):List Ce→List Ce
 | []=>[x]
 | y::l=>if ltC x y then x::y::l else y::Qri x l
def Qfb:List Ce→List Ce
 | []=>[]
 | x::l=>Qri x (Qfb l)
theorem Pq(x:Ce):∀l,(Qri x l).Perm (x::l)
 | []=>.refl _
 | y::l=>by
  unfold Qri
  split
  ·exact .refl _
  ·exact((Pq x l).cons y).trans (.swap _ _ _)
theorem Ja:∀l,(Qfb l).Perm l
 | []=>.refl _
 | x::l=>(Pq x _).trans ((Ja l).cons x)
abbrev Srt(l:List Ce):Prop:=l.Pairwise fun a b=>ltC a b=true
theorem Qi9{x:Ce}:∀ {l},Srt l→(∀y∈l,x.1≠y.1)→Srt (Qri x l)
 | [],_,_=>List.pairwise_singleton _ _
 | y::l,h,hd=>by
  have h':=List.pairwise_cons.1 h;unfold Qri
  split
  ·rename_i Wq;refine List.pairwise_cons.2 ⟨fun z hz=>?_,h⟩
   rcases List.mem_cons.1 hz with rfl|hz
   ·exact Wq
   ·exact Qvv Wq (h'.1 z hz)
  ·rename_i Wq;refine List.pairwise_cons.2 ⟨fun z hz=>?_,Qi9 h'.2 fun z hz=>hd z (.tail _ hz)⟩
   rcases List.mem_cons.1 ((Pq x l).mem_iff.1 hz) with rfl|hz
   ·exact(Qoy (hd y (.head _))).resolve_left (by simpa using Wq)
   ·exact h'.1 z hz
abbrev Dif(l:List Ce):Prop:=l.Pairwise fun a b=>a.1≠b.1
theorem Qhn:∀ {l},Dif l→Srt (Qfb l)
 | [],_=>.nil
 | x::l,h=>by
  have h':=List.pairwise_cons.1 h;exact Qi9 (Qhn h'.2) fun y hy=>h'.1 y ((Ja l).mem_iff.1 hy)
theorem Qnu:∀ {l m:List Ce},Srt l→Srt m→l.Perm m→l=m
 | [],m,_,_,hp=>(List.nil_perm.1 hp).symm
 | a::l,[],_,_,hp=>by have:=hp.length_eq;simp at this
 | a::l,b::m,hl,hm,hp=>by
  have hl':=List.pairwise_cons.1 hl;have hm':=List.pairwise_cons.1 hm
  have e:a=b:=by
   rcases List.mem_cons.1 (hp.mem_iff.1 (List.mem_cons_self ..)) with e|h1
   ·exact e
   ·rcases List.mem_cons.1 (hp.mem_iff.2 (List.mem_cons_self ..)) with e|h2
    ·exact e.symm
    ·have:=Q67 (hl'.1 b h2);rw[hm'.1 a h1]at this;cases this
  subst e;rw[Qnu hl'.2 hm'.2 (List.Perm.cons_inv hp)]
theorem Qx1{l m:List Ce}(hp:l.Perm m)(h:Dif l):Dif m:=by
 have:(m.map (·.1)).Nodup:=((hp.map _).nodup_iff).1 (by rw[List.nodup_iff_pairwise_ne,List.pairwise_map];exact h)
 rwa [List.nodup_iff_pairwise_ne,List.pairwise_map]at this
theorem Qqd{l:List Ce}(hd:Dif l)(h:l.Pairwise fun a b=>ltC b a=false):Srt l:=
 (hd.and h).imp fun⟨h1,h2⟩=>(Qoy h1).resolve_right (by rw[h2];simp)
def P7:Nat→List Int→List Ce
 | _,[]=>[]
 | k,x::l=>((k:Int),inI x)::P7 (k+1) l
abbrev He(row:List Int):List Ce:=P7 0 row
theorem Kn:∀k row,(P7 k row).length=row.length
 | _,[]=>rfl
 | k,_::l=>by simp[P7,Kn (k+1) l]
theorem Qch:∀ {k row i},(P7 k row)[i]?=(row[i]?).map fun x=>(((k+i:Nat):Int),inI x)
 | _,[],_=>rfl
 | k,x::l,0=>rfl
 | k,x::l,i+1=>by
  simp only[P7,List.getElem?_cons_succ];rw[Qch (k:=k+1),show k+1+i=k+(i+1) by omega]
theorem Dq{row:List Int}{i:Nat}:(He row)[i]?=(row[i]?).map fun x=>((i:Int),inI x):=by
 rw[Qch,Nat.zero_add]
theorem Qj0(row:List Int)(m:Nat)(x:Int)(hx:row[m]?=some x):(He row).take (m+1)=(He row).take m++[((m:Int),inI x)]:=by
 rw[List.take_add_one,Dq,hx];rfl
theorem Qq8{row:List Int}{c:Ce}:c∈He row↔∃(i:Nat) (x:Int),row[i]?=some x∧c=((i:Int),inI x):=by
 rw[List.mem_iff_getElem?]
 constructor
 ·rintro ⟨i,h⟩;rw[Dq,Option.map_eq_some_iff]at h;obtain⟨x,h1,h2⟩:=h;exact⟨i,x,h1,h2.symm⟩
 ·rintro ⟨i,x,h1,h2⟩;exact⟨i,by rw[Dq,h1,h2];rfl⟩
theorem Qen(row:List Int):Dif (He row):=by
 rw[Dif,List.pairwise_iff_getElem];intro i j hi hj hij e;have h1:=List.getElem?_eq_getElem hi;have h2:=List.getElem?_eq_getElem hj;rw[Dq,Option.map_eq_some_iff]at h1 h2;obtain⟨x,_,h1⟩:=h1;obtain⟨y,_,h2⟩:=h2;rw[←h1,←h2]at e;simp only at e;omega
def Yz(row:List Int):List Ce:=Qfb (He row)
theorem T4(row:List Int):(Yz row).Perm (He row):=Ja _
theorem Qnv(row:List Int):Srt (Yz row):=Qhn (Qen row)
theorem Gd(row:List Int):(Yz row).length=row.length:=by rw[(T4 row).length_eq,Kn]
theorem Qfa{row:List Int}{l:List Ce}(hp:l.Perm (He row))(h:l.Pairwise fun a b=>ltC b a=false):l=Yz row:=
 Qnu (Qqd (Qx1 hp.symm (Qen row)) h) (Qnv row) (hp.trans (T4 row).symm)
def Qrh(x:Int):List Int→List Int
 | []=>[x]
 | y::l=>if x≤y then x::y::l else y::Qrh x l
def Qk9:List Int→List Int
 | []=>[]
 | x::l=>Qrh x (Qk9 l)
theorem Pp(x:Int):∀l,(Qrh x l).Perm (x::l)
 | []=>.refl _
 | y::l=>by
  unfold Qrh
  split
  ·exact .refl _
  ·exact((Pp x l).cons y).trans (.swap _ _ _)
theorem F3:∀l,(Qk9 l).Perm l
 | []=>.refl _
 | x::l=>(Pp x _).trans ((F3 l).cons x)
theorem Qi8{x:Int}:∀ {l:List Int},l.Pairwise (·≤·)→(Qrh x l).Pairwise (·≤·)
 | [],_=>List.pairwise_singleton _ _
 | y::l,h=>by
  have h':=List.pairwise_cons.1 h;unfold Qrh
  split
  ·rename_i Wq;refine List.pairwise_cons.2 ⟨fun z hz=>?_,h⟩
   rcases List.mem_cons.1 hz with rfl|hz
   ·exact Wq
   ·exact Int.le_trans Wq (h'.1 z hz)
  ·rename_i Wq;refine List.pairwise_cons.2 ⟨fun z hz=>?_,Qi8 h'.2⟩
   rcases List.mem_cons.1 ((Pp x l).mem_iff.1 hz) with rfl|hz
   ·omega
   ·exact h'.1 z hz
theorem Qhm:∀l,(Qk9 l).Pairwise (·≤·)
 | []=>.nil
 | x::l=>Qi8 (Qhm l)
theorem Qhl:∀ {l m:List Int},l.Pairwise (·≤·)→m.Pairwise (·≤·)→l.Perm m→l=m
 | [],m,_,_,hp=>(List.nil_perm.1 hp).symm
 | a::l,[],_,_,hp=>by have:=hp.length_eq;simp at this
 | a::l,b::m,hl,hm,hp=>by
  have hl':=List.pairwise_cons.1 hl;have hm':=List.pairwise_cons.1 hm
  have e:a=b:=by
   rcases List.mem_cons.1 (hp.mem_iff.1 (List.mem_cons_self ..)) with e|h1
   ·exact e
   ·rcases List.mem_cons.1 (hp.mem_iff.2 (List.mem_cons_self ..)) with e|h2
    ·exact e.symm
    ·exact Int.le_antisymm (hl'.1 b h2) (hm'.1 a h1)
  subst e;rw[Qhl hl'.2 hm'.2 (List.Perm.cons_inv hp)]
theorem Qbe(l:List Int):l.mergeSort (fun x y=>decide (x≤y))=Qk9 l:=by
 refine Qhl ?_ (Qhm l) ((List.mergeSort_perm l _).trans (F3 l).symm);have:=List.pairwise_mergeSort (le:=fun x y:Int=>decide (x≤y)) (fun a b c h1 h2=>by simp only[decide_eq_true_eq]at *;omega) (fun a b=>by simp only[Bool.or_eq_true,decide_eq_true_eq];omega) l;exact this.imp fun h=>by simpa using h
def kth(row:List Int)(k:Nat):Option Int:=if k≤row.length then ((Yz row)[k-1]?).map (·.2) else none
def chosen(row:List Int)(k:Nat):List Int:=Qk9 (((Yz row).take k).map (·.1))
def comb(b:Option (Int×Nat))(i:Nat)(v:Option Int):Option (Int×Nat):=
 match v with
 | none=>b
 | some v=>match b with
  | none=>some (v,i)
  | some (u,j)=>if v<u then some (v,i) else some (u,j)
def Gw(k:Nat)(D:List (List Int)):Nat→Option (Int×Nat)
 | 0=>none
 | n+1=>comb (Gw k D n) n ((D[n]?).bind fun row=>kth row k)
structure St where
 at_:Int
 row:Int
 nodes:List Int
 ok:Bool
 deriving DecidableEq
instance:Inhabited St:=⟨⟨0,0,[],false⟩⟩
def Wo(D:List (List Int))(k:Int):St:=
 if k<1 then ⟨0,0,[],false⟩ else match Gw k.toNat D D.length with
  | none=>⟨0,0,[],false⟩
  | some (v,i)=>⟨v,i,chosen (D[i]?.getD []) k.toNat,true⟩
def R7(v:Int)(row:List Int)(n:Int):List Int:=if 0≤n∧n<row.length then row.set n.toNat v else row
def J6(v:Int)(row:List Int)(ns:List Int):List Int:=ns.foldl (R7 v) row
def A6(D:List (List Int))(r:Int)(ns:List Int)(v:Int):List (List Int):=if 0≤r∧r<D.length then D.set r.toNat (J6 v (D[r.toNat]?.getD []) ns) else D
def A4(D:List (List Int))(s:St)(len:Int):List (List Int):=
 if s.ok then A6 D s.row s.nodes (Qj9 s.at_ (max len 1)) else D
structure Ak where
 k:Int
 len:Int
 deriving DecidableEq
instance:Inhabited Ak:=⟨⟨0,0⟩⟩
def Fe(D:List (List Int)):List Ak→List St
 | []=>[]
 | a::l=>Wo D a.k::Fe (A4 D (Wo D a.k) a.len) l
theorem H3:∀(l:List Ak) D,(Fe D l).length=l.length
 | [],_=>rfl
 | a::l,D=>by simp[Fe,H3 l]
theorem Qhw(v:Int)(row:List Int)(n:Int):(R7 v row n).length=row.length:=by unfold R7;split <;> simp
theorem Fq(v:Int):∀(ns:List Int) (row:List Int),(J6 v row ns).length=row.length
 | [],_=>rfl
 | n::ns,row=>by
  show (J6 v (R7 v row n) ns).length=_;rw[Fq v ns,Qhw]
theorem Qic(D:List (List Int))(r:Int)(ns:List Int)(v:Int):(A6 D r ns v).map List.length=D.map List.length:=by
 unfold A6
 split
 ·rename_i h;refine List.ext_getElem? fun i=>?_;rw[List.getElem?_map,List.getElem?_map,List.getElem?_set]
  split
  ·rename_i e;subst e;rw[if_pos (by omega),List.getElem?_eq_getElem (show r.toNat<D.length by omega)];simp[Fq]
  ·rfl
 ·rfl
theorem Qdm(D:List (List Int))(s:St)(len:Int):(A4 D s len).map List.length=D.map List.length:=by
 unfold A4
 split
 ·exact Qic ..
 ·rfl
def Da(D:List (List Int)):List Ak→List (List Int)
 | []=>D
 | a::l=>Da (A4 D (Wo D a.k) a.len) l
theorem Rj:∀(l:List Ak) (D:List (List Int)),(Da D l).map List.length=D.map List.length
 | [],_=>rfl
 | a::l,D=>by
  show (Da (A4 D (Wo D a.k) a.len) l).map List.length=_;rw[Rj l,Qdm]
theorem Ri(a:Ak):∀(l:List Ak) (D:List (List Int)),Da D (l++[a])=A4 (Da D l) (Wo (Da D l) a.k) a.len
 | [],_=>rfl
 | b::l,D=>Ri a l _
theorem Qaz(a:Ak):∀(l:List Ak) (D:List (List Int)),Fe D (l++[a])=Fe D l++[Wo (Da D l) a.k]
 | [],_=>rfl
 | b::l,D=>by
  show Wo D b.k::Fe _ (l++[a])=Wo D b.k::(Fe _ l++[_]);rw[Qaz a l];rfl
open Go.Sort (SWO putCells putRow mapBlock grow onCells flatK HoldsK putRowK)
theorem Qya(x:Int)(W:World):Um Tryz.prog 125 [.int .i64 x] W (.int .i64 (inI x)):=by
 refine Zbd Tryz.func125 rfl Tryz.ntmps125 fun w0 Γ=>Zsh (ZY 7 ?_);refine Zv (Nl (if x<0 then 0 else x) rfl rfl (by split <;> omega)) ?_;refine Zv (Qie (inI x) rfl rfl (by unfold inI;split <;> (try split) <;> omega)) (ZY 3 ?_);exact Zf ef Zq (⟨rfl,rfl⟩)
theorem Qyn(x y:Int)(W:World):Um Tryz.prog 134 [.int .i64 x,.int .i64 y] W (.int .i64 (Qj9 x y)):=by
 refine Zbd Tryz.func134 rfl Tryz.ntmps134 fun w0 Γ=>Zsh ?_;have h1:=Qbq x;have h2:=Qbq y;refine ZY 7 ?_;refine Zp (S.Vs Eo.h (vs:=[_]) ⟨rfl,trivial⟩ (fun w hs=>Qya x w) rfl (Zy ?_));refine Zp (S.Vs Eo.h (vs:=[_]) ⟨rfl,trivial⟩ (fun w hs=>Qya y w) rfl (Zv (Za ef ef) ?_));refine Zp (S.Vs Eo.h (vs:=[_]) ⟨rfl,trivial⟩ (fun w hs=>Qya (inI x+inI y) w) rfl (ZY 3 ?_));exact Zf ef Zq (⟨rfl,rfl⟩)
theorem Zan(x:Int)(W:World):Um Tryz.prog 172 [.int .i64 x] W (.int .i64 (inI x)):=by
 refine Zbd Tryz.func172 rfl Tryz.ntmps172 fun w0 Γ=>Zsh ?_;have e:Qj9 x 0=inI x:=by unfold Qj9;rw[show inI 0=0 from rfl,Int.add_zero,Q17]
 refine ZY 7 ?_;refine Zp (S.Vs Eo.h (vs:=[_,_]) ⟨rfl,rfl,trivial⟩ (fun w hs=>Qyn x 0 w) rfl (ZY 3 ?_));exact Zf ef Zq (⟨by simp only[X2];rw[e],rfl⟩)
def X8(a b:Int):Int:=if a<b then -1 else if b<a then 1 else 0
theorem Qo8(x:Int)(W:World):Um Tryz.prog 152 [.int .i64 x] W (.bool false):=by
 refine Zbd Tryz.func152 rfl Tryz.ntmps152 fun w0 Γ=>Zsh (ZY 8 (ZY 4 ?_));exact Zf ef Zq (⟨by simp only[X2];rw[decide_eq_false (fun h=>h rfl)],rfl⟩)
theorem Qey(x y:Int)(W:World):Um Tryz.prog 122 [.int .i64 x,.int .i64 y] W (.int .i64 (X8 x y)):=by
 refine Zbd Tryz.func122 rfl Tryz.ntmps122 fun w0 Γ=>Zsh (ZY 7 ?_);refine Zp (S.Vs Eo.h (vs:=[_]) ⟨rfl,trivial⟩ (fun w hs=>Qo8 x w) rfl (ZY 5 ?_));refine Zp (S.Vs Eo.h (vs:=[_]) ⟨rfl,trivial⟩ (fun w hs=>Qo8 y w) rfl (ZY 7 (ZF ef (ZY 6 (ZF ef (ZY 8 ?_))))))
 refine Zj ef (fun h4=>?_) (fun h4=>?_)
 ·refine ZY 5 ?_;exact Zf ef Zq (⟨by simp only[X2,X8];rw[if_pos (by assumption)],rfl⟩)
 ·refine ZY 8 ?_
  refine Zj ef (fun h5=>?_) (fun h5=>?_)
  ·refine ZY 5 ?_;exact Zf ef Zq (⟨by simp only[X2,X8];rw[if_neg (by assumption),if_pos (by assumption)],rfl⟩)
  ·refine ZY 6 ?_;exact Zf ef Zq (⟨by simp only[X2,X8];rw[if_neg (by assumption),if_neg (by assumption)],rfl⟩)
def orI:List Int→Int
 | []=>0
 | x::l=>if x≠0 then x else orI l
theorem Qzb(s:SV)(l:List Int)(W:World)(hn:s.n=l.length)(h0:Hp W s.v l.length 1 (ints l)):Um Tryz.prog 121 [s.v] W (.int .i64 (orI l)):=by
 have hm0:=M1 h0;unfold maxLen at hm0;refine Zbd Tryz.func121 rfl Tryz.ntmps121 fun w0 Γ=>Zsh (ZY 8 (ZY 8 ?_));refine Zl (fun m ρ' Γ'=>∃k:Nat,m+k=l.length∧orI l=orI (l.drop k)∧ρ'=[(3,.int .i64 0),(6,s.v),(7,.int .i64 s.n),(8,.int .i64 k)]∧Γ'=Xa W::Γ) (m:=_) (⟨0,rfl,rfl,rfl,rfl⟩) ?_;rintro m ρ' Γ' ⟨k,hmk,hor,rfl,rfl⟩;refine ZY 5 ?_
 refine Zj ef (fun h1=>?_) (fun h1=>?_)
 ·obtain⟨x,hx⟩:=Yv (l:=l) (i:=k) (by omega);obtain⟨b,off,hb,Uw⟩:=J5 h0 (by omega)
  have Fz:l.drop k=x::l.drop (k+1):=by
   have Ao:=(List.getElem?_eq_some_iff.1 hx);rw[List.drop_eq_getElem_cons Ao.1,Ao.2]
  refine ZY 5 (Zv (Zx (k) ef (hb) ef (by omega)) ?_);refine Zv (Fa Eo.h rfl (Uw _ _ (by rw[Nat.mul_one,List.getElem?_map,hx];rfl))) ?_;refine ZY 8 ?_
  refine Zj ef (fun h2=>?_) (fun h2=>?_)
  ·refine ZY 6 ?_;exact Zf ef Zq (⟨by simp only[X2];rw[hor,Fz,orI,if_pos (by assumption)],rfl⟩)
  ·refine ZY 2 (Zv (Za ef ef) (ZY 2 ?_));exact ZX (m-1) (⟨k+1,by omega,by rw[hor,Fz,orI,if_neg (by assumption)],rfl,rfl⟩) (by omega)
 ·refine ZY 7 ?_;exact Zf ef Zq (⟨by simp only[X2];rw[hor,List.drop_eq_nil_of_le (by omega),orI],rfl⟩)
abbrev ceC(c:Ce):List Value:=[.int .i64 c.1,.int .i64 c.2]
theorem Ll:∀c,(ceC c).length=2:=fun _=>rfl
def Pf(a b:Ce):Int:=orI [X8 a.2 b.2,X8 a.1 b.1]
theorem Q1f(a b:Ce):decide (Pf a b<0)=ltC a b:=by
 unfold Pf orI orI orI X8 ltC;refine decide_eq_decide.2 ?_;split <;> split <;> (try split) <;> (try split) <;> omega
theorem Qf3(x y:Ce):Go.Proofs.ltOf Pf x y=ltC x y:=Q1f x y
theorem Q56:Go.Sort.SWO (Go.Proofs.ltOf Pf) where
 irrefl x:=by rw[Qf3];exact Q1r x
 trans x y z h1 h2:=by rw[Qf3]at *;exact Qvv h1 h2
 ntrans x y z h1 h2:=by rw[Qf3]at *;exact Q66 h1 h2
theorem Bp(x y:Ce)(W:World):Um Tryz.prog 174 [.agg (ceC x).toArray,.agg (ceC y).toArray] W (.int .i64 (Pf x y)):=by
 refine Zbd Tryz.func174 rfl Tryz.ntmps174 fun w0 Γ=>Zsh (ZY 2 (Zp (S.box (cs:=[_,_]) rfl rfl rfl ?_)));intro b2;refine Zp (S.box (cs:=[_,_]) rfl rfl rfl ?_);intro b3;refine ZY 3 ?_;refine Zd ([blk b2 232 (ceC x).toArray,blk b3 232 (ceC y).toArray]) [] [0,1,2,3,5,6,7,8] (ZY 8 ?_);refine Z1 (i:=4) ef ef ?_;refine(S.Vs Eo.h (vs:=[_,_]) ⟨rfl,rfl,trivial⟩ (fun w hs=>Qey x.2 y.2 w) rfl ?_);refine Zk [] ?_;refine Z1 (i:=9) ef ef ?_;refine(S.Vs Eo.h (vs:=[_,_]) ⟨rfl,rfl,trivial⟩ (fun w hs=>Qey x.1 y.1 w) rfl ?_);refine Zk [] ?_;refine Z1 (i:=10) ef ef ?_;refine(S.buildSlice (pvs:=[(_,_),(_,_)]) [_,_] Tryz.underlying66 Tryz.D2.h rfl rfl ⟨⟨rfl,rfl⟩,⟨rfl,rfl⟩,trivial⟩ rfl rfl ?_);intro b15;refine Zk [] ?_;refine Z1 (i:=11) ef ef ?_;refine(S.Vs Eo.h (vs:=[_]) ⟨rfl,trivial⟩ (fun w hs=>Qzb ⟨some ⟨b15,0,none⟩,2,2⟩ [X8 x.2 y.2,X8 x.1 y.1] w rfl (Qy (b:=b15) rfl (show 2≤maxLen by unfold maxLen;omega) w hs)) rfl ?_);refine Zk [12] (Zy ?_);refine ZD (Zy ?_);exact Zf ef Zq (⟨rfl,rfl⟩)
theorem Qg3(s:SV)(l:List Ce)(hl:l.length≤1000000):Spec Tryz.prog 173 [s.v,.func (.func 174) #[] #[]] [own s 232 2 (l.flatMap ceC)] fun Γ _ Θ=>
  ∃l':List Ce,l'.Perm l∧l'.Pairwise (fun a b=>ltC b a=false)∧Θ=own s 232 2 (l'.flatMap ceC)::Γ:=by
 have h:=Mq Tryz.Q0c 2 Tryz.isAgg232 Tryz.sizeOf232 ceC Ll (by omega) (fun x v hv=>by simp only[ceC,List.mem_cons,List.not_mem_nil,or_false]at hv;rcases hv with rfl|rfl <;> rfl) Pf Q56 174 (enters_of Tryz.func174 (by kernel_rfl) rfl) Bp 232 s l (by omega);simp only[Qf3]at h;exact h
end PL
open Go.Sort (putCells putRow mapBlock grow onCells Holds)
theorem Qfr(off:Nat)(d:List Int)(cur:Array Value):putCells (Value.int .i64) off d.toArray cur=putCells id off (ints d).toArray cur:=by
 unfold putCells;refine congrArg (fun f=>Array.mapIdx f cur) ?_
 funext k x
 have hs:(ints d).toArray.size=d.toArray.size:=by simp
 rw[hs]
 split
 ·rename_i h;have hk:k-off<d.length:=by have:=h.2;simp at this;omega
  rw[getElem!_pos d.toArray (k-off) (by simpa using hk),getElem!_pos (ints d).toArray (k-off) (by simpa using hk)];simp
 ·rfl
theorem Qcs{w:World}{b off n:Nat}{F:Array Value}{os:Array Obj}{cur:Array Value}{e:TypeId}(hb:Blk w b e cur):Blk (grow (mapBlock (Sort.ahead w n) b (putCells id off F)) os) b e (putCells id off F cur) ∧
  Keeps (fun i=>i=b) w (grow (mapBlock (Sort.ahead w n) b (putCells id off F)) os):=by
 have Wq:=hb.lt;have G3:(mapBlock (Sort.ahead w n) b (putCells id off F)).heap.size=w.heap.size:=by simp[mapBlock]
 have hold:∀i,i<w.heap.size→(grow (mapBlock (Sort.ahead w n) b (putCells id off F)) os).heap[i]?=(w.heap.modify b (onCells (putCells id off F)))[i]?:=fun i hi=>by
  show ((mapBlock (Sort.ahead w n) b (putCells id off F)).heap++os)[i]?=_;rw[Array.getElem?_append_left (by rw[G3];exact hi)];rfl
 refine⟨?_,rfl,rfl,rfl,?_,fun i hi Uk=>?_,?_⟩
 ·unfold Blk;rw[hold b Wq,Array.getElem?_modify,if_pos rfl,show w.heap[b]?=some (.cells cur e (0,0)) from hb];rfl
 ·show w.heap.size≤((mapBlock (Sort.ahead w n) b (putCells id off F)).heap++os).size;rw[Array.size_append,G3];omega
 ·rw[hold i hi,Array.getElem?_modify,if_neg (fun e=>Uk e.symm)]
 ·show w.drawn≤w.drawn+n;omega
theorem Qnc{P:Program}{ρ:Go.Shelf.Ren}(L:Lays.n189 P ρ)(e:TypeId)(s:SV)(l:List Int)(hl:l.length<4611686018427387904) :
  Spec P (ρ.f 189) [s.v] [own s e 1 (ints l)] fun Γ _ Θ=>Θ=own s e 1 (ints (l.mergeSort fun x y=>decide (x≤y)))::Γ:=by
 intro Γ w hs;obtain⟨x0,le0,p0⟩:=hs.head;have hO0:=(p0.mono le0).Qde;have hlen:=hO0.1;rw[List.length_map,Nat.mul_one]at hlen
 by_cases hz:s.n=0
 ·refine(show Calls P (ρ.f 189) #[.slice s.a s.n s.c] w _ from ?_);rw[hz];refine(Any.slices_Sort_int_none L s.a s.c w).mono ?_;rintro e' w' ⟨rfl,rfl⟩;obtain rfl:l=[]:=List.eq_nil_of_length_eq_zero (by omega);exact⟨_,_,rfl,by simp,hs,Ext.refl _⟩
 ·rcases hO0.2 with ⟨_,h3,_⟩|⟨b,off,c,cur,q1,q2,hB,q4,q5,q6,q7⟩
  ·omega
  ·simp only[SV.v,Value.slice.injEq,true_and]at q1;obtain⟨q1,rfl⟩:=q1;rw[Nat.mul_one]at q6 q7
   have hH:Holds (Value.int .i64) w b off l.toArray:=by
    intro j hj;have hj':j<l.length:=by simpa using hj
    refine⟨?_,hB.frozen _⟩;rw[hB.cell]
    have e1:(ints l)[j]?=cur[off+j]?:=by
     rw[←q7,List.getElem?_take_of_lt (by omega),List.getElem?_drop,Array.getElem?_toList]
    rw[←e1,getElem!_pos l.toArray j hj,List.getElem?_map,List.getElem?_eq_getElem hj'];rfl
   refine(show Calls P (ρ.f 189) #[.slice s.a s.n s.c] w _ from ?_);have hc:=Any.slices_Sort_int L b off s.c l w hH hB.lt hl;rw[q1,←hlen];refine hc.mono ?_;rintro e' w' ⟨rfl,nn,os,rfl⟩;have hml:(l.mergeSort fun x y=>decide (x≤y)).length=l.length:=(List.mergeSort_perm l _).length_eq;generalize hm:(l.mergeSort fun x y=>decide (x≤y))=m at hml
   have ep:∀w:World,putRow (Value.int .i64) w b off m.toArray=mapBlock w b (putCells id off (ints m).toArray):=fun w=>by
    unfold putRow
    congr 1
    funext cur
    exact Qfr off m cur
   rw[ep];obtain⟨k1,k2⟩:=Qcs (off:=off) (n:=nn) (F:=(ints m).toArray) (os:=os) hB;have hF:(ints m).toArray.size=s.n:=by simp[hml,hlen]
   refine⟨_,_,rfl,rfl,?_,k2.os,k2.tape,k2.output,k2.size,fun _=>k2.drawn⟩
   refine hs.Qa2 (b:=b) ⟨?_,.inr ⟨b,off,s.c,_,by simp only[SV.v,q1],rfl,k1,q4,q5,?_,?_⟩⟩ (by rw[q1];rfl) k2
   ·simp[hml,hlen]
   ·simp only[putCells,Array.size_mapIdx];omega
   ·have:=Ft (off:=off) (F:=(ints m).toArray) (cur:=cur) (by rw[hF];omega);rw[hF]at this;rw[Nat.mul_one];exact this
end Go.Proofs.YtdackcibfkkniaaGreatDoor
namespace Go.Proofs.YtdackcibfkkniaaGreatDoor
namespace PL
open Go.RowKit
theorem Q36(s:SV)(l:List Int)(hl:l.length≤1000000):Spec Tryz.prog 147 [s.v] [own s 3 1 (ints l)] fun Γ _ Θ=>Θ=own s 3 1 (ints (Qk9 l))::Γ:=by
 have h:=Qnc Tryz.Q10 3 s l (by omega);rw[Qbe]at h;exact h
def T7(row:List Int)(k:Int):List Ce:=if k≤row.length then (Yz row).take k.toNat else []
theorem Bu{α:Type}{enc:α→List Value}{sz:Nat}(he:∀x,(enc x).length=sz)(os:List α)(k:Nat):(os.flatMap enc).take (k*sz)=(os.take k).flatMap enc:=by
 induction os generalizing k with
 | nil=>simp
 | cons x l ih=>
  cases k with
  | zero=>simp
  | succ k=>
   rw[List.flatMap_cons,List.take_succ_cons,List.flatMap_cons,List.take_append,he,List.take_of_length_le (by rw[he,Nat.succ_mul];omega),show (k+1)*sz-sz=k*sz by rw[Nat.succ_mul];omega,ih]
theorem Qqe(R:Assn)(s:SV)(row:List Int)(k:Int)(hk:1≤k)(hl:row.length≤1000)(hR:RdS R s row.length 1 (ints row)) :
  Spec Tryz.prog 146 [s.v,.int .i64 k] [R] fun Γ v Θ=>∃u:SV,(k≤row.length→u.n=k.toNat)∧v=.tuple #[u.v,.bool (decide (k≤row.length))]∧Θ=own u 232 2 ((T7 row k).flatMap ceC)::R::Γ:=by
 obtain⟨kn,rfl⟩:∃kn:Nat,k=(kn:Int):=⟨k.toNat,by omega⟩;rw[Int.toNat_natCast];have Uj:T7 row (kn:Int)=if (kn:Int)≤row.length then (Yz row).take kn else []:=rfl
 refine Zbd Tryz.func146 rfl Tryz.ntmps146 fun w0 Γ=>Zsh ?_;refine S.Nk hR fun hn _ _=>(ZY 7 ?_);refine S.Qh (show Ent _ (own SV.nil 232 2 (((He row).take 0).flatMap ceC)::_) from Ent.Ye 232 2) (ZY 8 (ZY 2 ?_));refine Zl (fun m ρ' Γ'=>∃(i:Nat) (lv:SV),m+i=row.length∧ρ'=[(1,.int .i64 kn),(6,lv.v),(9,s.v),(10,.int .i64 s.n),(11,.int .i64 i)]∧Γ'=own lv 232 2 (((He row).take i).flatMap ceC)::R::Γ) (m:=_) (⟨0,SV.nil,rfl,rfl,rfl⟩) ?_;rintro m ρ' Γ' ⟨i,lv,hmi,rfl,rfl⟩;refine S.Yf lv fun hlen _ _=>?_;rw[Z3 Ll,List.length_take,Kn,Nat.min_eq_left (by omega)]at hlen;refine ZY 5 ?_
 refine Zj ef (fun h1=>?_) (fun h1=>?_)
 ·obtain⟨x,hx⟩:=Yv (l:=row) (i:=i) (by omega);refine S.F6 hR (by omega) fun b off hb=>(ZY 6 (Zv (Zx (i) ef (hb) ef (by omega)) (Zv (Fb hR i Eo.h rfl hb (by omega) (by omega) (Cy hx)) (ZY 7 ?_))));refine Zp (S.Vs Eo.h (vs:=[_]) ⟨rfl,trivial⟩ (fun w hs=>Zan x w) rfl ?_);refine Zv (Q3 (pvs:=[(_,_),(_,_)]) [_,_] Tryz.z232.h Tryz.Zem.h ⟨⟨rfl,rfl⟩,⟨rfl,rfl⟩,trivial⟩ rfl) ?_;refine Zp (S.buildSlice (pvs:=[(_,_)]) [_,_] Tryz.underlying228 Tryz.Qwe.h rfl rfl ⟨⟨rfl,rfl⟩,trivial⟩ rfl rfl ?_);intro b21;refine Zp (S.Qu (s:=lv) (1) (ceC ((i:Int),inI x)) Tryz.underlying228 Tryz.Qwe.h rfl rfl rfl (Qy (b:=b21) rfl (by unfold maxLen;omega)) (by first|rfl|exact Ql _) (⟨by omega,by omega⟩) rfl ?_);intro lv' hlv';rw[show ((He row).take i).flatMap ceC++ceC ((i:Int),inI x)=((He row).take (i+1)).flatMap ceC by rw[Qj0 row i x hx,List.flatMap_append];rfl];refine ZY 3 (Zv (Za ef ef) (ZY 2 ?_));exact ZX (m-1) (⟨i+1,lv',by omega,rfl,rfl⟩) (by omega)
 ·refine ZY 8 (Zy ?_)
  refine Zj ef (fun h2=>?_) (fun h2=>?_)
  ·obtain rfl:i=row.length:=by omega
   refine ZY 6 ?_;refine S.Qh (show Ent _ (own SV.nil 232 2 (([]:List Ce).flatMap ceC)::_) from Ent.Ye 232 2) ?_;exact Zf ef Zq (⟨SV.nil,fun h=>by omega,by rw[decide_eq_false (by omega)];rfl,by rw[Uj,if_neg (by omega)]⟩)
  ·obtain rfl:i=row.length:=by omega
   rw[List.take_of_length_le (by rw[Kn];exact Nat.le_refl _)];refine ZY 4 ?_;refine Zp (Zc1 Ze (Qg3 lv (He row) (by rw[Kn];omega)) ?_);rintro v Θ ⟨l',hp,hsr,rfl⟩;obtain rfl:=Qfa hp hsr;refine ZY 5 (S.conv (own lv 232 2 ((Yz row).flatMap ceC)) (Ent.Qfw lv 232 2 _ (k:=kn) (by omega) _) (Zv (Pa (kn) Eo.h rfl rfl rfl (by omega)) (ZY 4 ?_)));exact Zf ef Zq (⟨⟨lv.a,kn,lv.c⟩,fun _=>rfl,by rw[decide_eq_true (by omega)];rfl,by rw[Uj,if_pos (by omega),←Bu Ll]⟩)
set_option linter.unusedVariables false
structure RW where
 v:SV
 d:List Int
instance:Inhabited RW:=⟨⟨SV.nil,[]⟩⟩
abbrev rwC(r:RW):List Value:=[r.v.v]
theorem Kr:∀r,(rwC r).length=1:=fun _=>rfl
abbrev rwB(r:RW):Assn:=own r.v 3 1 (ints r.d)
abbrev dat(rs:List RW):List (List Int):=rs.map RW.d
structure RdP(R:Assn)(s:SV)(rs:List RW):Prop where
 top:RdS R s rs.length 1 (rs.flatMap rwC)
 row:∀ {i:Nat} {r:RW},rs[i]?=some r→RdS R r.v r.d.length 1 (ints r.d)
def prof(s:SV)(rs:List RW):Assn:=stars [own s 66 1 (rs.flatMap rwC),alls rs rwB]
theorem Ent.prof(s:SV)(rs:List RW)(Γ:List Assn):Ent (own s 66 1 (rs.flatMap rwC)::alls rs rwB::Γ) (prof s rs::Γ):=Ent.pack [_,_] Γ
theorem Ent.unprof(s:SV)(rs:List RW)(Γ:List Assn):Ent (Go.Proofs.YtdackcibfkkniaaGreatDoor.PL.prof s rs::Γ) (own s 66 1 (rs.flatMap rwC)::alls rs rwB::Γ):=Ent.unpack [_,_] Γ
theorem RdP.prof(s:SV)(rs:List RW):RdP (prof s rs) s rs:=by
 refine⟨fun Γ w hs=>?_,fun {i r} hr Γ w hs=>?_⟩
 ·have h1:=hs.Qh (Ent.unprof s rs Γ);have h2:=(Wx.head).L3 h1;obtain⟨x,_,p⟩:=h1.head;have h3:=p.1;rw[Z3 Kr,Nat.mul_one,Nat.mul_one]at h3
  rwa [←h3]at h2
 ·have h1:=(hs.Qh (Ent.unprof s rs Γ)).Qh ((Ent.drop _ _).trans (Ent.Wp rwB hr Γ));have h2:=(Wx.head).L3 h1;obtain⟨x,_,p⟩:=h1.head;have h3:=p.1;rw[List.length_map,Nat.mul_one]at h3
  rwa [←h3]at h2
abbrev stC(u:SV)(x:St):List Value:=[.int .i64 x.at_,.int .i64 x.row,u.v,.bool x.ok]
def Lt(D:List (List Int))(k n:Nat):St:=match Gw k D n with
 | none=>⟨0,0,[],false⟩
 | some (v,i)=>⟨v,i,((Yz (D[i]?.getD [])).take k).map (·.1),true⟩
theorem Qsq{D:List (List Int)}{k n:Nat}{row:List Int}(hr:D[n]?=some row)(hk:1≤k){ck:Ce}(hck:k≤row.length→(Yz row)[k-1]?=some ck) :
  Lt D k (n+1)=if (decide (k≤row.length)&&(!(Lt D k n).ok || decide (ck.2<(Lt D k n).at_)))=true then ⟨ck.2,n,((Yz row).take k).map (·.1),true⟩ else Lt D k n:=by
 unfold Lt;simp only[Gw,hr,Option.bind_some,kth]
 by_cases h:k≤row.length
 ·rw[if_pos h,hck h];simp only[Option.map_some,comb,decide_eq_true h,Bool.true_and];cases Gw k D n with
  | none=>simp[hr]
  | some x=>
   obtain⟨u,j⟩:=x;simp only[Bool.not_true,Bool.false_or,decide_eq_true_eq]
   by_cases h2:ck.2<u
   ·rw[if_pos h2,if_pos h2];simp[hr]
   ·rw[if_neg h2,if_neg h2]
 ·rw[if_neg h];simp[comb,h]
theorem Qmn{D:List (List Int)}{k:Nat}(hk:1≤k):Wo D k=⟨(Lt D k D.length).at_,(Lt D k D.length).row,Qk9 (Lt D k D.length).nodes,(Lt D k D.length).ok⟩:=by
 unfold Wo Lt;rw[if_neg (by omega),Int.toNat_natCast];cases Gw k D D.length with
 | none=>rfl
 | some x=>rfl
set_option linter.unusedVariables false
theorem S.Zau{n:Nat}{md:Bool}{w0:WM md}{ρ:Env}{Γ:List Assn}{φ:Act→World→Prop}(s:SV){e:TypeId}{sz:Nat}{xs:List Value}{Δ:List Assn}[h:Wx Γ s e sz xs Δ](k:∀b off,(0<s.n→s.a=some ⟨b,off,none⟩)→xs.length=s.n*sz→s.n≤s.c→s.c≤maxLen→S n w0 ρ Γ φ):S n w0 ρ Γ φ:=by
 by_cases hn:0<s.n
 ·exact S.Qp s hn fun b off hb h1 h2 h3=>k b off (fun _=>hb) h1 h2 h3
 ·exact S.Yf s fun h1 h2 h3=>k 0 0 (fun h=>absurd h hn) h1 h2 h3
theorem Qb4{D:List (List Int)}{k:Int}(h:k<1):Wo D k=⟨0,0,[],false⟩:=by unfold Wo;rw[if_pos h]
theorem L1{row:List Int}{k:Nat}(h:k≤row.length):T7 row (k:Int)=(Yz row).take k:=by unfold T7;rw[if_pos (by omega),Int.toNat_natCast]
theorem Q35{D:List (List Int)}{k n:Nat}(h:∀row∈D,row.length≤1000):(Lt D k n).nodes.length≤1000:=by
 unfold Lt;cases Gw k D n with
 | none=>simp
 | some x=>
  obtain⟨v,i⟩:=x;simp only[List.length_map,List.length_take,Gd];cases hi:D[i]? with
  | none=>simp
  | some row=>have:=h row (List.mem_of_getElem? hi);simp only[Option.getD_some];omega
theorem Q54{k n:Nat}{ok:Bool}{a b:Int}(h:(!decide ((k:Int)≤n))=true):true=!(decide (k≤n)&&(!ok || decide (a<b))):=by
 have:¬k≤n:=by simpa using h
 rw[decide_eq_false this];rfl
theorem Q53{k n:Nat}{ok:Bool}{a b:Int}(h:k≤n)(h2:ok=false):false=!(decide (k≤n)&&(!ok || decide (a<b))):=by
 rw[decide_eq_true h,h2];rfl
theorem Q52{k n:Nat}{ok:Bool}{a b:Int}(h:k≤n)(h2:ok=true):decide (b≤a)=!(decide (k≤n)&&(!ok || decide (a<b))):=by
 rw[decide_eq_true h,h2,Bool.true_and,Bool.not_true,Bool.false_or]
 by_cases h3:a<b
 ·rw[decide_eq_true h3,decide_eq_false (by omega)];rfl
 ·rw[decide_eq_false h3,decide_eq_true (by omega)];rfl
theorem Q4n{c T:Bool}(hc:c=!T)(h:c=true):T=false:=by subst h;cases T <;> simp_all
theorem Q4o{c T:Bool}(hc:c=!T)(h:c=false):T=true:=by subst h;cases T <;> simp_all
set_option maxHeartbeats 1000000 in
theorem Q4a(R:Assn)(s:SV)(rs:List RW)(k len:Int)(hl:rs.length≤1000)(hrl:∀r∈rs,r.d.length≤1000)(hR:RdP R s rs) :
  Spec Tryz.prog 113 [s.v,.agg #[.int .i64 k,.int .i64 len]] [R] fun Γ v Θ=>∃u:SV,v=.agg (stC u (Wo (dat rs) k)).toArray∧Θ=own u 3 1 (ints (Wo (dat rs) k).nodes)::R::Γ:=by
 refine Zbd Tryz.func113 rfl Tryz.ntmps113 fun w0 Γ=>Zsh ?_;refine S.Nk hR.top fun hn _ _=>(ZY 2 (Zp (S.box (cs:=[_,_]) rfl rfl rfl ?_)));intro b3;refine Zp (S.alloc Tryz.z146.h rfl ?_);intro b4;refine ZY 3 (Zp (S.alloc Tryz.z146.h rfl ?_));intro b5;refine ZY 8 ?_
 refine Zj ef (fun h1=>?_) (fun h1=>?_)
 ·refine ZY 3 (Zp (Zs ef ef (cs':=[_,_,_,_]) ef (ZY 2 ?_)));refine S.Qh (show Ent _ (own SV.nil 3 1 (ints [])::_) from Ent.Ye 3 1) ?_;exact Zf ef Zq (⟨SV.nil,by rw[Qb4 (by assumption)];rfl,by rw[Qb4 (by assumption)]⟩)
 ·obtain⟨kn,rfl⟩:∃kn:Nat,k=(kn:Int):=⟨k.toNat,by omega⟩;refine S.Qh (show Ent _ (own SV.nil 3 1 (ints (St.mk 0 0 [] false).nodes)::_) from Ent.Ye 3 1) (ZY 8 (Zy ?_));refine Zl (fun m ρ' Γ'=>∃(i:Nat) (u:SV) (x:St),m+i=rs.length∧x=Lt (dat rs) kn i∧ρ'=[(3,.pointer (some ⟨b3,0,none⟩)),(4,.pointer (some ⟨b4,0,none⟩)),(5,.pointer (some ⟨b5,0,none⟩)),(16,s.v),(17,.int .i64 s.n),(18,.int .i64 i)]∧Γ'=blk b5 146 (stC u x).toArray::own u 3 1 (ints x.nodes)::blk b3 139 #[.int .i64 kn,.int .i64 len]::blk b4 146 #[.int .i64 0,.int .i64 0,.slice none 0 0,.bool false]::R::Γ) (m:=_) (⟨0,SV.nil,⟨0,0,[],false⟩,rfl,rfl,rfl,rfl⟩) ?_;rintro m ρ' Γ' ⟨i,u,x,hmi,hx,rfl,rfl⟩;refine ZY 5 ?_
  refine Zj ef (fun h2=>?_) (fun h2=>?_)
  ·obtain⟨r,hr⟩:=Yv (l:=rs) (i:=i) (by omega);have hrd:r.d.length≤1000:=hrl r (List.mem_of_getElem? hr)
   obtain⟨ck,hck⟩:∃ck,kn≤r.d.length→(Yz r.d)[kn-1]?=some ck:=by
    by_cases h:kn≤r.d.length
    ·obtain⟨c,hc⟩:=Yv (l:=Yz r.d) (i:=kn-1) (by rw[Gd];omega);exact⟨c,fun _=>hc⟩
    ·exact⟨(0,0),fun h'=>absurd h' h⟩
   have Rv:=Qsq (D:=dat rs) (n:=i) (by rw[List.getElem?_map,hr];rfl) (show 1≤kn by omega) hck;rw[←hx]at Rv;refine S.F6 hR.top (by omega) fun b off hb=>(ZY 2 ?_)
   refine Zc (fun ρ' Γ'=>∃(u2:SV) (x2:St),x2=Lt (dat rs) kn (i+1)∧ρ'=[(3,.pointer (some ⟨b3,0,none⟩)),(4,.pointer (some ⟨b4,0,none⟩)),(5,.pointer (some ⟨b5,0,none⟩)),(16,s.v),(17,.int .i64 s.n),(18,.int .i64 i)]∧Γ'=blk b5 146 (stC u2 x2).toArray::own u2 3 1 (ints x2.nodes)::blk b3 139 #[.int .i64 kn,.int .i64 len]::blk b4 146 #[.int .i64 0,.int .i64 0,.slice none 0 0,.bool false]::R::Γ) ?_ ?_
   ·refine ZY 4 (Zv (Zx (i) ef (hb) ef (by omega)) (Zv (Fb hR.top (i*1) Eo.h rfl hb (by omega) rfl (flat_get (enc:=rwC) (sz:=1) (k:=0) Kr hr rfl)) (ZY 8 (Zp (Zc1 Ze (Qqe R r.v r.d kn (by omega) hrd (hR.row hr)) ?_)))));rintro v Θ ⟨lu,hlu,rfl,rfl⟩;rw[Int.toNat_natCast]at hlu;refine S.Zau lu fun b' off' hb' hll hlc hlm=>?_
    have Q7p:kn≤r.d.length→∀j v,(ceC ck)[j]?=some v→((T7 r.d kn).flatMap ceC)[(kn-1)*2+j]?=some v:=fun h=>by
     refine Y8 (enc:=ceC) (sz:=2) Ll ?_;rw[L1 h,List.getElem?_take_of_lt (by omega)];exact hck h
    refine ZY 8 ?_
    refine Zc (fun ρ' Γ'=>∃c:Bool,c=!(decide (kn≤r.d.length)&&(!x.ok || decide (ck.2<x.at_)))∧ρ'=[(3,.pointer (some ⟨b3,0,none⟩)),(4,.pointer (some ⟨b4,0,none⟩)),(5,.pointer (some ⟨b5,0,none⟩)),(6,.int .i64 i),(8,lu.v),(16,s.v),(17,.int .i64 s.n),(18,.int .i64 i),(47,.bool c)]∧Γ'=own lu 232 2 ((T7 r.d kn).flatMap ceC)::blk b5 146 (stC u x).toArray::own u 3 1 (ints x.nodes)::blk b3 139 #[.int .i64 kn,.int .i64 len]::blk b4 146 #[.int .i64 0,.int .i64 0,.slice none 0 0,.bool false]::R::Γ) ?_ ?_
    ·refine Zd ([own lu 232 2 ((T7 r.d kn).flatMap ceC),blk b5 146 (stC u x).toArray,blk b3 139 #[.int .i64 kn,.int .i64 len]]) [] [0,1,2] (ZY 3 ?_)
     refine Zbb 32 ef (fun hg8_2=>?_) (fun hg8_2=>?_)
     ·refine Zr (Zra 3 15) (ZY 8 (ZY 7 ?_));refine ZD ?_;first|exact S.meet ⟨_,by first|exact Q54 hg8_2|exact Q53 Ao hg8_5|exact Q52 Ao hg8_5,rfl,rfl⟩ ⟨rfl,rfl,rfl,rfl,rfl,rfl,rfl,rfl,rfl,trivial⟩ Sub.Qh
     ·have Ao:kn≤r.d.length:=by simpa using hg8_2
      refine Zr [3,4,5] (ZY 3 ?_)
      refine Zbb 35 ef (fun hg8_5=>?_) (fun hg8_5=>?_)
      ·refine Zr (Zra 6 12) (ZY 3 ?_);refine Zwg ef ef ef ef (Zm ef ef) ?_;refine Zwg ef ef ef ef (Zx (kn-1) ef ((hb' (by omega))) ef (by omega) ((by omega))) (Zy ?_);refine Zwg ef ef ef ef (Zo (lu) ((kn-1)*2+1) ef ((hb' (by omega))) (Q7p Ao 1 _ rfl)) (ZY 5 ?_);refine ZD ?_;first|exact S.meet ⟨_,by first|exact Q54 hg8_2|exact Q53 Ao hg8_5|exact Q52 Ao hg8_5,rfl,rfl⟩ ⟨rfl,rfl,rfl,rfl,rfl,rfl,rfl,rfl,rfl,trivial⟩ Sub.Qh
      ·refine Zr (Zra 6 12) (ZY 8 (ZY 4 ?_));refine ZD ?_;first|exact S.meet ⟨_,by first|exact Q54 hg8_2|exact Q53 Ao hg8_5|exact Q52 Ao hg8_5,rfl,rfl⟩ ⟨rfl,rfl,rfl,rfl,rfl,rfl,rfl,rfl,rfl,trivial⟩ Sub.Qh
    ·rintro ρ' Γ' ⟨c,hc,rfl,rfl⟩
     refine Zi ef (fun h3=>?_) (fun h3=>?_)
     ·have Hd:(decide (kn≤r.d.length)&&(!x.ok || decide (ck.2<x.at_)))=false:=Q4n hc h3;rw[if_neg (by rw[Hd];simp)]at Rv;refine Zy ?_;first|exact S.meet ⟨u,x,Rv.symm,rfl,rfl⟩ ⟨rfl,rfl,rfl,rfl,rfl,rfl,trivial⟩ Sub.Qh|exact S.meet ⟨u2,⟨ck.2,i,L.map (·.1),true⟩,Rv.symm,rfl,rfl⟩ ⟨rfl,rfl,rfl,rfl,rfl,rfl,trivial⟩ Sub.Qh
     ·have Hd:(decide (kn≤r.d.length)&&(!x.ok || decide (ck.2<x.at_)))=true:=Q4o hc h3;rw[if_pos Hd]at Rv;have Ao:kn≤r.d.length:=by rw[Bool.and_eq_true]at Hd;simpa using Hd.1
      have hln:=hlu (by omega);obtain⟨L,hL⟩:∃L,L=(Yz r.d).take kn:=⟨_,rfl⟩;have hLl:L.length=kn:=by rw[hL,List.length_take,Gd];omega
      rw[L1 Ao,←hL]at Q7p;rw[L1 Ao,←hL];rw[←hL]at Rv;refine ZY 6 (Zv (Zm ef ef) (Zv (Zx (kn-1) ef ((hb' (by omega))) ef (by omega) ((by omega))) (Zy (Zv (Zo (lu) ((kn-1)*2+1) ef ((hb' (by omega))) (Q7p Ao 1 _ rfl)) (Zy ?_)))));refine Zv (Q3 (pvs:=[(_,_),(_,_),(_,_)]) [_,_,_,_] Tryz.z146.h Tryz.Zer.h ⟨⟨rfl,rfl⟩,⟨rfl,rfl⟩,⟨rfl,rfl⟩,trivial⟩ rfl) (Zp (Zs ef ef (cs':=[_,_,_,_]) ef (ZY 3 ?_)));refine S.Qh (show Ent _ (own SV.nil 3 1 (ints ((L.take 0).map (·.1)))::_) from Ent.Ye 3 1) (ZY 5 ?_);refine Zl (fun m ρ' Γ'=>∃(j:Nat) (u2:SV),m+j=kn∧ρ'=[(3,.pointer (some ⟨b3,0,none⟩)),(4,.pointer (some ⟨b4,0,none⟩)),(5,.pointer (some ⟨b5,0,none⟩)),(16,s.v),(17,.int .i64 s.n),(18,.int .i64 i),(57,lu.v),(58,.int .i64 lu.n),(59,.int .i64 j)]∧Γ'=blk b5 146 #[.int .i64 ck.2,.int .i64 i,u2.v,.bool true]::own u2 3 1 (ints ((L.take j).map (·.1)))::own lu 232 2 (L.flatMap ceC)::blk b3 139 #[.int .i64 kn,.int .i64 len]::blk b4 146 #[.int .i64 0,.int .i64 0,.slice none 0 0,.bool false]::R::Γ) (m:=_) (⟨0,SV.nil,rfl,rfl,rfl⟩) ?_;rintro m2 ρ' Γ' ⟨j,u2,hmj,rfl,rfl⟩;refine S.Yf u2 fun Gq _ _=>?_;rw[List.length_map,List.length_map,List.length_take,Nat.mul_one]at Gq;refine ZY 5 ?_
      refine Zj ef (fun h4=>?_) (fun h4=>?_)
      ·obtain⟨c,hc2⟩:=Yv (l:=L) (i:=j) (by omega);refine ZY 5 (Zv (Zx (j) ef ((hb' (by omega))) ef (by omega)) (Zv (X4 (lu) (j*2) [_,_] Eo.h rfl (hb' (by omega)) (by first|rfl|exact Nat.add_assoc _ _ _|omega) rfl (Y8 (enc:=ceC) (sz:=2) Ll hc2)) (Zp (S.alloc Tryz.z232.h rfl ?_))));intro b11;refine Zp (Zs ef ef (cs':=[_,_]) ef (ZY 6 ?_));refine Zp (S.buildSlice (pvs:=[(_,_)]) [_] Tryz.underlying66 Tryz.D2.h rfl rfl ⟨⟨rfl,rfl⟩,trivial⟩ rfl rfl ?_);intro b67;refine Zp (S.Qu (s:=u2) (1) ([.int .i64 c.1]) Tryz.underlying66 Tryz.D2.h rfl rfl rfl (Qy (b:=b67) rfl (by unfold maxLen;omega)) (by first|rfl|exact Ql _) (⟨by omega,by omega⟩) rfl ?_);intro u3 hu3;rw[show ints ((L.take j).map (·.1))++[Value.int .i64 c.1]=ints ((L.take (j+1)).map (·.1)) by rw[Qqa _ _ _ _ hc2];simp[ints]];refine ZY 4 (Zv (Za ef ef) (ZY 2 ?_));exact ZX (m2-1) (⟨j+1,u3,by omega,rfl,rfl⟩) (by omega)
      ·have hLj:L.take j=L:=List.take_of_length_le (by omega);rw[hLj];refine Zy ?_;first|exact S.meet ⟨u,x,Rv.symm,rfl,rfl⟩ ⟨rfl,rfl,rfl,rfl,rfl,rfl,trivial⟩ Sub.Qh|exact S.meet ⟨u2,⟨ck.2,i,L.map (·.1),true⟩,Rv.symm,rfl,rfl⟩ ⟨rfl,rfl,rfl,rfl,rfl,rfl,trivial⟩ Sub.Qh
   ·rintro ρ' Γ' ⟨u9,x9,hx9,rfl,rfl⟩;refine Zy (Zv (Za ef ef) (ZY 2 ?_));exact ZX (m-1) (⟨i+1,u9,x9,by omega,hx9,rfl,rfl⟩) (by omega)
  ·obtain rfl:i=rs.length:=by omega
   have Mu:x.nodes.length≤1000:=by rw[hx];exact Q35 (fun row hr=>by obtain⟨r,h1,rfl⟩:=List.mem_map.1 hr;exact hrl r h1)
   have Xi:=Qmn (D:=dat rs) (k:=kn) (by omega);rw[List.length_map,←hx]at Xi;refine ZY 5 (Zp (Zc1 Ze (Q36 u x.nodes (by omega)) ?_));rintro v Θ rfl;refine ZY 4 (Zp (Zs ef ef (cs':=[_,_,_,_]) ef (ZY 2 ?_)));exact Zf ef Zq (⟨u,by rw[Xi];rfl,by rw[Xi]⟩)
set_option linter.unusedVariables false
theorem S.Qup{n:Nat}{md:Bool}{w0:WM md}{ρ:Env}{Γ:List Assn}{φ:Act→World→Prop}{R:Assn}{s:SV}{m sz:Nat}{xs:List Value}(h:RdS R s m sz xs){Δ:List Assn}[p:Pick R Γ Δ](k:(s.a.isNone=true→m=0)→S n w0 ρ Γ φ):S n w0 ρ Γ φ:=by
 by_cases hm:0<m
 ·exact S.F6 h hm fun b off hb=>k fun hn=>by rw[hb]at hn;cases hn
 ·exact k fun _=>by omega
theorem Qp4(R:Assn)(s:SV)(l:List Int)(hl:l.length≤1000)(hR:RdS R s l.length 1 (ints l)):Spec Tryz.prog 117 [s.v] [R] fun Γ v Θ=>∃u:SV,v=u.v∧Θ=own u 3 1 (ints l)::R::Γ:=by
 refine Zbd Tryz.func117 rfl Tryz.ntmps117 fun w0 Γ=>Zsh ?_;refine S.Nk hR fun hn _ _=>?_;refine S.Qup hR fun Qjg=>(ZY 8 (ZY 2 ?_))
 refine Zi ef (fun h1=>?_) (fun h1=>?_)
 ·refine ZY 5 ?_;obtain rfl:l=[]:=List.eq_nil_of_length_eq_zero (Qjg (by simpa using h1));refine S.Qh (show Ent _ (own SV.nil 3 1 (ints [])::_) from Ent.Ye 3 1) ?_;exact Zf ef Zq (⟨SV.nil,rfl,rfl⟩)
 ·refine ZY 3 (Zp (S.Fk Tryz.underlying66 Tryz.D2.h rfl ?_));intro b5 hb5;refine Zy ?_;refine Zp (S.Qu (s:=b5) (s.n) (ints l) Tryz.underlying66 Tryz.D2.h rfl rfl rfl (fun w hs=>by rw[hn];exact hR.at_ hs) (Qwc l) (⟨by omega,by omega⟩) rfl ?_);intro u hu;rw[List.nil_append];refine ZY 3 ?_;exact Zf ef Zq (⟨u,rfl,rfl⟩)
theorem G7{v:Int}{row ns:List Int}{j:Nat}{n:Int}(h:ns[j]?=some n):J6 v row (ns.take (j+1))=R7 v (J6 v row (ns.take j)) n:=by
 unfold J6;rw[List.take_add_one,h,Option.toList_some,List.foldl_append];rfl
theorem Qhv{v:Int}{row:List Int}{n:Int}(h:0≤n∧n<row.length):R7 v row n=row.set n.toNat v:=if_pos h
theorem Qn1{v:Int}{row:List Int}{n:Int}(h:¬(0≤n∧n<row.length)):R7 v row n=row:=if_neg h
theorem ints_set(l:List Int)(i:Nat)(x:Int):(ints l).set i (.int .i64 x)=ints (l.set i x):=(List.map_set).symm
theorem Qn3{rs:List RW}{i:Nat}{r:RW}(hr:rs[i]?=some r)(d:List Int):(rs.set i ⟨r.v,d⟩).flatMap rwC=rs.flatMap rwC:=by
 have h:=Qjr (enc:=rwC) (sz:=1) Kr (x':=⟨r.v,d⟩) (k:=0) (v:=r.v.v) hr (by omega) rfl;rw[←h];refine List.ext_getElem? fun j=>?_;rw[List.getElem?_set]
 split
 ·rename_i e;subst e;have:=flat_get (enc:=rwC) (sz:=1) (k:=0) Kr hr rfl;have Wq:=(List.getElem?_eq_some_iff.1 this).1;rw[if_pos Wq,this]
 ·rfl
theorem Qpt(rs:List RW)(i:Nat)(r:RW):dat (rs.set i r)=(dat rs).set i r.d:=List.map_set
theorem Q0g(A:List Value)(z v:Value)(B:List Value):(A++z::B).set A.length v=A++v::B:=by
 rw[List.set_append_right _ _ (Nat.le_refl _),Nat.sub_self];rfl
theorem Qt0{α:Type}{l:List α}{i:Nat}{x:α}(h:l[i]?=some x):l.set i x=l:=by
 refine List.ext_getElem? fun j=>?_;rw[List.getElem?_set]
 split
 ·rename_i e;subst e;rw[if_pos (List.getElem?_eq_some_iff.1 h).1,h]
 ·rfl
theorem Q65{rs':List RW}{k n:Nat}(h:rs'.length=k)(hk:k<n)(r:RW):(rs'.flatMap rwC++Yx [.slice none 0 0] (n-k)).set (k*1) r.v.v=(rs'++[r]).flatMap rwC++Yx [.slice none 0 0] (n-(k+1)):=by
 have e:k*1=(rs'.flatMap rwC).length:=by rw[Z3 Kr,h]
 rw[show n-k=(n-(k+1))+1 by omega,e];refine(Q0g _ _ _ _).trans ?_;simp
theorem Quf{D:List (List Int)}{x:St}{len:Int}(h1:x.ok=true)(h2:0≤x.row∧x.row<D.length):A4 D x len=D.set x.row.toNat (J6 (Qj9 x.at_ (max len 1)) (D[x.row.toNat]?.getD []) x.nodes):=by
 unfold A4 A6;rw[if_pos h1,if_pos h2]
theorem Q0q{D:List (List Int)}{x:St}{len:Int}(h:¬(x.ok=true∧0≤x.row∧x.row<D.length)):A4 D x len=D:=by
 unfold A4 A6
 by_cases h1:x.ok=true
 ·rw[if_pos h1,if_neg (fun h2=>h ⟨h1,h2⟩)]
 ·rw[if_neg h1]
theorem S.Q3x{n:Nat}{md:Bool}{w0:WM md}{ρ:Env}{Γ:List Assn}{φ:Act→World→Prop}{rs:List RW}{i:Nat}{r:RW}(hr:rs[i]?=some r){Δ:List Assn}[p:Pick (alls rs rwB) Γ Δ](k:r.v.n=r.d.length→S n w0 ρ Γ φ):S n w0 ρ Γ φ:=by
 intro a w ha hs hx;obtain⟨x,_,h⟩:=((hs.Qh p.Qh).Qh (Ent.Wp rwB hr Δ)).head;have h3:=h.1;rw[List.length_map,Nat.mul_one]at h3;exact k h3.symm a w ha hs hx
theorem Q6u{ok:Bool}{row:Int}{n:Nat}(h:(!ok)=false)(h2:row<0):true=!(ok&&decide (0≤row∧row<n)):=by
 rw[decide_eq_false (by omega),Bool.and_false];rfl
theorem Q6t{ok:Bool}{row:Int}{m n:Nat}(h:(!ok)=false)(h2:¬row<0)(e:m=n):decide ((m:Int)≤row)=!(ok&&decide (0≤row∧row<n)):=by
 subst e;rw[show ok=true by simpa using h,Bool.true_and]
 by_cases h3:row<m
 ·rw[decide_eq_false (by omega),decide_eq_true (by omega)];rfl
 ·rw[decide_eq_true (by omega),decide_eq_false (by omega)];rfl
theorem Q6v{ok:Bool}{p:Prop}[Decidable p](h:(!ok)=true):true=!(ok&&decide p):=by cases ok <;> simp_all
set_option maxHeartbeats 1000000 in
theorem Qsv(R Q:Assn)(s:SV)(rs:List RW)(u:SV)(x:St)(len:Int)(hl:rs.length≤1000)(hrl:∀r∈rs,r.d.length≤1000)(hR:RdP R s rs)(hQ:RdS Q u x.nodes.length 1 (ints x.nodes)) :
  Spec Tryz.prog 114 [s.v,.agg (stC u x).toArray,.int .i64 len] [R,Q] fun Γ v Θ=>∃(s':SV) (rs':List RW),v=s'.v∧dat rs'=A4 (dat rs) x len∧Θ=prof s' rs'::R::Q::Γ:=by
 refine Zbd Tryz.func114 rfl Tryz.ntmps114 fun w0 Γ=>Zsh ?_;refine S.Nk hR.top fun hn _ _=>?_;refine S.Nk hQ fun hun hunc hunm=>?_;have hdl:(dat rs).length=rs.length:=List.length_map _;refine ZY 2 (Zp (S.box (cs:=[_,_,_,_]) rfl rfl rfl ?_));intro b4;refine ZY 6 ?_;refine Zp (S.makeSlice (s.n) (s.n) Tryz.underlying143 Tryz.Q4t.h rfl rfl rfl rfl rfl (Nat.le_refl _) (⟨by omega,by omega⟩) rfl ?_);intro ov hov;rw[show Yx [.slice none 0 0] s.n=([]:List RW).flatMap rwC++Yx [.slice none 0 0] (s.n-0) from rfl];refine S.Qh (Ent.Jv rwB _) (ZY 8 (ZY 2 ?_));refine Zl (fun m ρ' Γ'=>∃(i:Nat) (rs':List RW),m+i=rs.length∧dat rs'=(dat rs).take i∧ρ'=[(2,.int .i64 len),(4,.pointer (some ⟨b4,0,none⟩)),(7,ov.v),(15,s.v),(16,.int .i64 s.n),(17,.int .i64 i)]∧Γ'=own ov 66 1 (rs'.flatMap rwC++Yx [.slice none 0 0] (s.n-i))::alls rs' rwB::blk b4 146 (stC u x).toArray::R::Q::Γ) (m:=_) (⟨0,[],rfl,rfl,rfl,rfl⟩) ?_;rintro m ρ' Γ' ⟨i,rs',hmi,hd,rfl,rfl⟩;have hrl':rs'.length=i:=by have:=congrArg List.length hd;rw[List.length_map,List.length_take]at this;omega
 refine ZY 5 ?_
 refine Zj ef (fun h1=>?_) (fun h1=>?_)
 ·obtain⟨r,hr⟩:=Yv (l:=rs) (i:=i) (by omega);have hrd:r.d.length≤1000:=hrl r (List.mem_of_getElem? hr);refine S.F6 hR.top (by omega) fun b off hb=>?_;refine S.Qp ov (by omega) fun b' off' hb' hll hlc hlm=>(ZY 6 (Zv (Zx (i) ef (hb) ef (by omega)) (Zv (Fb hR.top (i*1) Eo.h rfl hb (by omega) rfl (flat_get (enc:=rwC) (sz:=1) (k:=0) Kr hr rfl)) (ZY 7 (Zp (Zc1 Ze (Qp4 R r.v r.d hrd (hR.row hr)) ?_))))));rintro v Θ ⟨u1,rfl,rfl⟩;refine Zv (Zx (i) ef (hb') ef (by omega)) ?_;refine Zp (S.Yb (ov) (i*1) Eo.h rfl rfl rfl hb' (by first|rfl|exact Nat.add_assoc _ _ _|omega) (by omega) (Q65 hrl' (by omega) ⟨u1,r.d⟩) (ZY 2 ?_));refine S.Wj (own u1 3 1 (ints r.d)) (alls rs' rwB) (Ent.Hn rwB rs' ⟨u1,r.d⟩ _) (Zv (Za ef ef) (ZY 2 ?_));exact ZX (m-1) (⟨i+1,rs'++[⟨u1,r.d⟩],by omega,by rw[List.take_add_one,List.getElem?_map,hr,←hd];simp,rfl,rfl⟩) (by omega)
 ·obtain rfl:i=rs.length:=by omega
  rw[List.take_of_length_le (by omega)]at hd;rw[show s.n-rs.length=0 by omega,show Yx [.slice none 0 0] 0=[] from rfl,List.append_nil];refine ZY 3 ?_
  refine Zc (fun ρ' Γ'=>∃c:Bool,c=!(x.ok&&decide (0≤x.row∧x.row<rs.length))∧ρ'=[(2,.int .i64 len),(4,.pointer (some ⟨b4,0,none⟩)),(7,ov.v),(42,.bool c)]∧Γ'=own ov 66 1 (rs'.flatMap rwC)::alls rs' rwB::blk b4 146 (stC u x).toArray::R::Q::Γ) ?_ ?_
  ·refine ZY 5 ?_
   refine Zbb 31 ef (fun hg7_3=>?_) (fun hg7_3=>?_)
   ·refine ZY 8 (ZY 4 ?_);first|exact S.meet ⟨_,by first|exact Q6v hg7_3|exact Q6u hg7_3 hg7_8|exact Q6t hg7_3 hg7_8 (by omega),rfl,rfl⟩ ⟨rfl,rfl,rfl,rfl,trivial⟩ Sub.Qh
   ·refine ZY 5 ?_
    refine Zb 36 ef (fun hg7_8=>?_) (fun hg7_8=>?_)
    ·refine ZY 7 ?_;first|exact S.meet ⟨_,by first|exact Q6v hg7_3|exact Q6u hg7_3 hg7_8|exact Q6t hg7_3 hg7_8 (by omega),rfl,rfl⟩ ⟨rfl,rfl,rfl,rfl,trivial⟩ Sub.Qh
    ·refine ZY 7 ?_;first|exact S.meet ⟨_,by first|exact Q6v hg7_3|exact Q6u hg7_3 hg7_8|exact Q6t hg7_3 hg7_8 (by omega),rfl,rfl⟩ ⟨rfl,rfl,rfl,rfl,trivial⟩ Sub.Qh
  ·rintro ρ' Γ' ⟨c,hc,rfl,rfl⟩
   refine Zi ef (fun h2=>?_) (fun h2=>?_)
   ·refine ZY 6 (S.Qh (Ent.prof ov rs' _) ?_);exact Zf ef Zq (⟨ov,rs',rfl,by rw[hd,Q0q (fun h=>by have:=Q4n hc h2;rw[h.1,Bool.true_and,decide_eq_true (by omega)]at this;cases this)],rfl⟩)
   ·have hT:=Q4o hc h2;rw[Bool.and_eq_true,decide_eq_true_eq]at hT;obtain⟨hok,Sg⟩:=hT;obtain⟨rn,hrn⟩:∃rn:Nat,x.row=rn:=⟨x.row.toNat,by omega⟩;obtain⟨r0,hr0⟩:=Yv (l:=rs) (i:=rn) (by omega);have hD0:(dat rs)[rn]?=some r0.d:=by rw[List.getElem?_map,hr0];rfl
    have Xi:A4 (dat rs) x len=(dat rs).set rn (J6 (Qj9 x.at_ (max len 1)) r0.d x.nodes):=by
     rw[Quf hok (by omega),show x.row.toNat=rn by omega,hD0];rfl
    have Zjs:r0.d.length≤1000:=hrl r0 (List.mem_of_getElem? hr0);obtain⟨V,hV⟩:∃V,V=Qj9 x.at_ (max len 1):=⟨_,rfl⟩;rw[←hV]at Xi;refine ZY 8 (ZY 2 ?_);refine Zl (fun m ρ' Γ'=>∃(j:Nat) (rs2:List RW),m+j=x.nodes.length∧dat rs2=(dat rs).set rn (J6 V r0.d (x.nodes.take j))∧ρ'=[(2,.int .i64 len),(4,.pointer (some ⟨b4,0,none⟩)),(7,ov.v),(45,u.v),(46,.int .i64 u.n),(47,.int .i64 j)]∧Γ'=own ov 66 1 (rs2.flatMap rwC)::alls rs2 rwB::blk b4 146 (stC u x).toArray::R::Q::Γ) (m:=_) (⟨0,rs',rfl,by rw[hd];exact(Qt0 hD0).symm,rfl,rfl⟩) ?_;rintro m2 ρ' Γ' ⟨j,rs2,hmj,hdd,rfl,rfl⟩;have Zfm:rs2.length=rs.length:=by have:=congrArg List.length hdd;rw[List.length_map,List.length_set,hdl]at this;exact this
    refine ZY 5 ?_
    refine Zj ef (fun h3=>?_) (fun h3=>?_)
    ·obtain⟨nd,G2⟩:=Yv (l:=x.nodes) (i:=j) (by omega);obtain⟨r2,Ca⟩:=Yv (l:=rs2) (i:=rn) (by omega)
     have hd2:r2.d=J6 V r0.d (x.nodes.take j):=by
      have h1:(dat rs2)[rn]?=some r2.d:=by rw[List.getElem?_map,Ca];rfl
      rw[hdd,List.getElem?_set_self (by omega)]at h1;exact(Option.some.inj h1).symm
     have Gq:r2.d.length=r0.d.length:=by rw[hd2,Fq]
     refine S.Q3x Ca fun Zjt=>?_;refine S.F6 hQ (by omega) fun bq oq hbq=>?_;refine S.Qp ov (by omega) fun b' off' hb' hll hlc hlm=>(ZY 2 ?_)
     refine Zc (fun ρ' Γ'=>∃rs3:List RW,dat rs3=(dat rs).set rn (J6 V r0.d (x.nodes.take (j+1)))∧ρ'=[(2,.int .i64 len),(4,.pointer (some ⟨b4,0,none⟩)),(7,ov.v),(45,u.v),(46,.int .i64 u.n),(47,.int .i64 j)]∧Γ'=own ov 66 1 (rs3.flatMap rwC)::alls rs3 rwB::blk b4 146 (stC u x).toArray::R::Q::Γ) ?_ ?_
     ·refine ZY 3 (Zv (Zx (j) ef (hbq) ef (by omega)) (Zv (Fb hQ j Eo.h rfl hbq (by omega) (by omega) (Cy G2)) (ZY 3 ?_)))
      refine Zc (fun ρ' Γ'=>∃c:Bool,c=decide (0≤nd∧nd<r2.d.length)∧ρ'=[(2,.int .i64 len),(4,.pointer (some ⟨b4,0,none⟩)),(7,ov.v),(11,.int .i64 nd),(45,u.v),(46,.int .i64 u.n),(47,.int .i64 j),(62,.bool c)]∧Γ'=own ov 66 1 (rs2.flatMap rwC)::alls rs2 rwB::blk b4 146 (stC u x).toArray::R::Q::Γ) ?_ ?_
      ·refine ZY 4 ?_
       refine Zb 53 ef (fun hg12_2=>?_) (fun hg12_2=>?_)
       ·refine ZY 4 (Zvg ef ef ef (Zx (rn) ef (hb') ef (by omega) (hrn)) (Zvg ef ef ef (Zo (ov) (rn*1) ef (hb') (flat_get (enc:=rwC) (sz:=1) (k:=0) Kr Ca rfl)) (ZY 4 ?_)));first|exact S.meet ⟨_,by first|exact(decide_eq_false (fun h=>hg12_2 h.1)).symm|(refine decide_eq_decide.2 ?_;omega),rfl,rfl⟩ ⟨rfl,rfl,rfl,rfl,rfl,rfl,rfl,rfl,trivial⟩ Sub.Qh
       ·refine ZY 8 (ZY 2 ?_);first|exact S.meet ⟨_,by first|exact(decide_eq_false (fun h=>hg12_2 h.1)).symm|(refine decide_eq_decide.2 ?_;omega),rfl,rfl⟩ ⟨rfl,rfl,rfl,rfl,rfl,rfl,rfl,rfl,trivial⟩ Sub.Qh
      ·rintro ρ' Γ' ⟨c,hc,rfl,rfl⟩
       refine Zi ef (fun h4=>?_) (fun h4=>?_)
       ·rw[h4]at hc;have hin:=of_decide_eq_true hc.symm;refine S.conv (alls rs2 rwB) (Ent.Wp rwB Ca _) ?_;refine S.Qp r2.v (by omega) fun b3 off3 hb3 _ _ _=>?_;refine Zd ([own ov 66 1 (rs2.flatMap rwC),own r2.v 3 1 (ints r2.d),blk b4 146 (stC u x).toArray]) [12] (Zra 0 10) (ZY 3 ?_);refine Zw ef (Zx (rn) ef (hb') ef (by omega) (hrn)) ?_;refine Zw ef (Zo (ov) (rn*1) ef (hb') (flat_get (enc:=rwC) (sz:=1) (k:=0) Kr Ca rfl)) (ZY 4 ?_);refine Zw ef (Nl (max len 1) rfl rfl (by omega)) ?_;refine Z1 (i:=10) ef ef ?_;refine(S.Vs Eo.h (vs:=[_,_]) ⟨rfl,rfl,trivial⟩ (fun w hs=>Qyn x.at_ (max len 1) w) rfl ?_);refine Zk [11] ?_;refine Zw ef (Zx (nd.toNat) ef (hb3) ef (by omega) ((by omega))) ?_;refine Z1 (i:=12) ef ef ?_;refine(S.Yb (r2.v) (nd.toNat*1) Eo.h rfl rfl rfl hb3 (by first|rfl|exact Nat.add_assoc _ _ _|omega) (by rw[List.length_map];omega) (by rw[Nat.mul_one,ints_set,←hV]) ?_);refine ZL ([]) [] ?_;refine ZD ?_;first
        | exact ZM ⟨rs2,by rw[G7 G2,Qn1 (by rw[←hd2];exact Vb)];exact hdd,rfl,rfl⟩
        | (refine S.Xb (own r2.v 3 1 (ints (r2.d.set nd.toNat V))) (alls (rs2.take rn) rwB) (alls (rs2.drop (rn+1)) rwB) (Ent.Yl rwB (x':=⟨r2.v,r2.d.set nd.toNat V⟩) Ca _) ?_;rw[←Qn3 Ca (r2.d.set nd.toNat V)];exact S.meet ⟨rs2.set rn ⟨r2.v,r2.d.set nd.toNat V⟩,by rw[Qpt,hdd,List.set_set,G7 G2,Qhv (by rw[←hd2];exact hin),hd2],rfl,rfl⟩ ⟨rfl,rfl,rfl,rfl,rfl,rfl,trivial⟩ Sub.Qh)
       ·rw[h4]at hc;have Vb:=of_decide_eq_false hc.symm;refine Zy ?_;first
        | exact ZM ⟨rs2,by rw[G7 G2,Qn1 (by rw[←hd2];exact Vb)];exact hdd,rfl,rfl⟩
        | (refine S.Xb (own r2.v 3 1 (ints (r2.d.set nd.toNat V))) (alls (rs2.take rn) rwB) (alls (rs2.drop (rn+1)) rwB) (Ent.Yl rwB (x':=⟨r2.v,r2.d.set nd.toNat V⟩) Ca _) ?_;rw[←Qn3 Ca (r2.d.set nd.toNat V)];exact S.meet ⟨rs2.set rn ⟨r2.v,r2.d.set nd.toNat V⟩,by rw[Qpt,hdd,List.set_set,G7 G2,Qhv (by rw[←hd2];exact hin),hd2],rfl,rfl⟩ ⟨rfl,rfl,rfl,rfl,rfl,rfl,trivial⟩ Sub.Qh)
     ·rintro ρ' Γ' ⟨rs3,hd3,rfl,rfl⟩;refine Zy (Zv (Za ef ef) (ZY 2 ?_));exact ZX (m2-1) (⟨j+1,rs3,by omega,hd3,rfl,rfl⟩) (by omega)
    ·rw[List.take_of_length_le (by omega)]at hdd;refine S.Wj (own ov 66 1 (rs2.flatMap rwC)) (alls rs2 rwB) (Ent.prof ov rs2 _) (ZY 7 ?_);exact Zf ef Zq (⟨ov,rs2,rfl,by rw[Xi,hdd],rfl⟩)
set_option linter.unusedVariables false
structure Sml(D:List (List Int)):Prop where
 rows:D.length≤1000
 row:∀r∈D,r.length≤1000
theorem Sml.Q1g{D E:List (List Int)}(h:Sml D)(e:E.map List.length=D.map List.length):Sml E:=by
 refine⟨by have:=congrArg List.length e;rw[List.length_map,List.length_map]at this;have:=h.rows;omega,fun r hr=>?_⟩;have h1:r.length∈E.map List.length:=List.mem_map_of_mem hr;rw[e]at h1;obtain⟨q,h2,h3⟩:=List.mem_map.1 h1;have:=h.row q h2;omega
theorem Sml.at_{D:List (List Int)}(h:Sml D)(l:List Ak):Sml (Da D l):=h.Q1g (Rj l D)
theorem Sml.len{rs:List RW}(h:Sml (dat rs)):rs.length≤1000:=by have:=h.rows;rwa [List.length_map]at this
theorem Sml.each{rs:List RW}(h:Sml (dat rs)):∀r∈rs,r.d.length≤1000:=fun r hr=>h.row r.d (List.mem_map_of_mem hr)
theorem Q6k{u:SV}{e:TypeId}{l:List Int}:RdS (own u e 1 (ints l)) u l.length 1 (ints l):=fun Γ w hs=>by
 have h2:=(Wx.head).L3 hs;obtain⟨x,_,p⟩:=hs.head;have h3:=p.1;rw[List.length_map,Nat.mul_one]at h3
 rwa [←h3]at h2
theorem RdP.Qh{A B:Assn}{s:SV}{rs:List RW}(h:RdP A s rs)(e:∀Γ,∃Δ,Ent (B::Γ) (A::Δ)):RdP B s rs:=
 ⟨fun Γ w hs=>by obtain⟨Δ,h1⟩:=e Γ;exact h.top _ _ (hs.Qh h1),fun hr Γ w hs=>by obtain⟨Δ,h1⟩:=e Γ;exact h.row hr _ _ (hs.Qh h1)⟩
theorem Q6j(s:SV)(rs:List RW)(R:Assn):RdP (stars [prof s rs,R]) s rs:=(RdP.prof s rs).Qh fun Γ=>⟨_,Ent.unpack [prof s rs,R] Γ⟩
theorem Ent.second(A R:Assn)(Γ:List Assn):Ent (stars [A,R]::Γ) (R::Γ):=(Ent.unpack [A,R] Γ).trans (Ent.drop _ _)
abbrev akC(a:Ak):List Value:=[.int .i64 a.k,.int .i64 a.len]
theorem Q3z:∀a,(akC a).length=2:=fun _=>rfl
structure SR where
 v:SV
 x:St
instance:Inhabited SR:=⟨⟨SV.nil,default⟩⟩
abbrev srC(r:SR):List Value:=stC r.v r.x
theorem Qnw:∀r,(srC r).length=4:=fun _=>rfl
abbrev srB(r:SR):Assn:=own r.v 3 1 (ints r.x.nodes)
set_option maxHeartbeats 1000000 in
theorem Q9a(R A:Assn)(s:SV)(rs:List RW)(l:SV)(al:List Ak)(hs:Sml (dat rs))(hal:al.length≤1000)(hR:RdP R s rs)(hA:RdS A l al.length 2 (al.flatMap akC)) :
  Spec Tryz.prog 77 [s.v,l.v] [R,A] fun Γ v Θ=>∃(u:SV) (os:List SR),v=u.v∧os.map SR.x=Fe (dat rs) al∧Θ=own u 146 4 (os.flatMap srC)::alls os srB::R::A::Γ:=by
 refine Zbd Tryz.func77 rfl Tryz.ntmps77 fun w0 Γ=>Zsh ?_;refine S.Nk hA fun hln _ _=>(ZY 6 ?_);refine S.Qh (show Ent _ (own SV.nil 146 4 (([]:List SR).flatMap srC)::_) from Ent.Ye 146 4) (S.Qh (Ent.Jv srB _) (ZY 8 (ZY 2 ?_)));refine Zl (fun m ρ' Γ'=>∃(i:Nat) (uo:SV) (os:List SR) (X:Assn) (sx:SV) (rx:List RW),m+i=al.length∧dat rx=Da (dat rs) (al.take i)∧os.map SR.x=Fe (dat rs) (al.take i)∧RdP X sx rx∧(∀Γ,Ent (X::Γ) (R::Γ))∧ρ'=[(0,sx.v),(5,uo.v),(9,l.v),(10,.int .i64 l.n),(11,.int .i64 i)]∧Γ'=own uo 146 4 (os.flatMap srC)::alls os srB::X::A::Γ) (m:=_) (⟨0,SV.nil,[],R,s,rs,rfl,rfl,rfl,hR,fun Γ=>Ent.refl _,rfl,rfl⟩) ?_;rintro m ρ' Γ' ⟨i,uo,os,X,sx,rx,hmi,hd,hos,hX,hXR,rfl,rfl⟩;have hsx:Sml (dat rx):=by rw[hd];exact hs.at_ _
 have hol:os.length=i:=by have:=congrArg List.length hos;rw[List.length_map,H3,List.length_take]at this;omega
 refine S.Yf uo fun hul _ _=>?_;rw[Z3 Qnw]at hul;refine ZY 5 ?_
 refine Zj ef (fun h1=>?_) (fun h1=>?_)
 ·obtain⟨a,ha⟩:=Yv (l:=al) (i:=i) (by omega);refine S.F6 hA (by omega) fun b off hb=>(ZY 5 (Zv (Zx (i) ef (hb) ef (by omega)) (Zv (Co hA (i*2) (akC a) Eo.h rfl hb (by omega) rfl rfl (Y8 (enc:=akC) (sz:=2) Q3z ha)) (Zp (S.alloc Tryz.z139.h rfl ?_)))));intro b7;refine Zp (Zs ef ef (cs':=[_,_]) ef (ZY 5 (Zp (Zc1 Ze (Q4a X sx rx a.k a.len hsx.len hsx.each hX) ?_))));rintro v Θ ⟨u1,rfl,rfl⟩;obtain⟨x1,Z4⟩:∃x1,x1=Wo (dat rx) a.k:=⟨_,rfl⟩;rw[←Z4];refine Zp (S.alloc Tryz.z146.h rfl ?_);intro b8;refine Zp (Zs ef ef (cs':=[_,_,_,_]) ef (ZY 7 (Zp (Zc1 Ze (Qsv X (own u1 3 1 (ints x1.nodes)) sx rx u1 x1 a.len hsx.len hsx.each hX Q6k) ?_))));rintro v Θ ⟨s',rs',rfl,hd',rfl⟩;refine ZY 5 ?_;refine Zp (S.buildSlice (pvs:=[(_,_)]) [_,_,_,_] Tryz.underlying140 Tryz.Qwh.h rfl rfl ⟨⟨rfl,rfl⟩,trivial⟩ rfl rfl ?_);intro b25;refine Zp (S.Qu (s:=uo) (1) (srC ⟨u1,x1⟩) Tryz.underlying140 Tryz.Qwh.h rfl rfl rfl (Qy (b:=b25) rfl (by unfold maxLen;omega)) (by first|rfl|exact Ql _) (⟨by omega,by omega⟩) rfl ?_);intro uo' huo';rw[Xg srC os ⟨u1,x1⟩];refine S.Wj (own u1 3 1 (ints x1.nodes)) (alls os srB) (Ent.Hn srB os ⟨u1,x1⟩ _) (S.Wj (prof s' rs') X (((hXR _).cons _).trans (Ent.pack [prof s' rs',R] _)) (ZY 3 ?_));have Hd:al.take (i+1)=al.take i++[a]:=by rw[List.take_add_one,ha];rfl
  refine Zv (Za ef ef) (ZY 2 ?_);exact ZX (m-1) (⟨i+1,uo',os++[⟨u1,x1⟩],stars [prof s' rs',R],s',rs',by omega,by rw[hd',Hd,Ri,←hd,Z4],by rw[List.map_append,hos,Hd,Qaz,←hd,Z4];rfl,Q6j s' rs' R,Ent.second _ _,rfl,rfl⟩) (by omega)
 ·rw[List.take_of_length_le (by omega)]at hos;refine S.conv X (hXR _) (ZY 7 ?_);exact Zf ef Zq (⟨uo,os,rfl,hos,rfl⟩)
end PL
open Go.MapKept (run_checkKey run_findKey)
section
variable {P:Program}{n:Nat}{md:Bool}{w0:WM md}{ρ:Env}{Γ:List Assn}{ty:TypeId}{pos:String}{af:Array Edge}{gd:Option (Nat×Bool)}{ds:Option Tmp}
theorem Qif{t kt et:TypeId}{q:IntKind}{x y:Operand}{kk:IntKind}{z:Int}{zv:Value}(ht:P.underlying t=some (.map kt et))(hk:P.underlying kt=some (.int q))(hzv:(P.info? et).bind (·.zero)=some zv)
  (hx:ev ρ x=some (.map none)) (hy:ev ρ y=some (.int kk z)) (hq:q=kk):Qv P n ρ Γ ⟨ds,.lookup t x y true,ty,pos,af,gd⟩ (.tuple #[zv,.bool false]):=fun a w ha _=>by
 subst hq;have hf:=run_findKey (P:=P) (w:=w) hk (show Instr.findNow (.int q) (.int q z) [] 0=some none from rfl)
 have hz:(zeroValue et).run P w=.ok zv w:=by
  cases hi:P.info? et with
  | none=>simp[hi]at hzv
  | some i=>
   cases hz':i.zero with
   | none=>simp[hi,hz']at hzv
   | some z0=>
    simp only[hi,hz',Option.bind_some,Option.some.injEq]at hzv;simp[zeroValue,typeInfo,hi,hz',hzv]
 have hc:∀e,(Instr.checkKey e 10000 kt (.int q z)).run P w=.ok () w:=fun e=>run_checkKey (P:=P) (w:=w) (k:=.int q z) hk rfl e 9999;simp[execOp,ha.ev hx,ha.ev hy,Instr.lookup,run_underlying ht,hc,hf,hz,Result.andThen]
theorem J7{t yt kt et:TypeId}{x y:Operand}{p:Option Nat}(ht:P.underlying t=some (.map kt et))(hx:ev ρ x=some (.map p))(hy:ev ρ y=some (.map none)):Qv P n ρ Γ ⟨ds,.binOp .neq t x y yt,ty,pos,af,gd⟩ (.bool p.isSome):=
 Pb hx hy (fun w=>by simp[eqGuard]) (fun w=>by
  simp only[binOp];rw[show Op.equal t (.map p) (.map none)=Op.equalIn (9999+1) t (.map p) (.map none) from rfl];unfold Op.equalIn;cases p <;> simp[run_underlying ht])
end
def Xy(s:List Nat):List (Int×Value):=s.map fun x:Nat=>((x:Int),Value.agg #[])
def Yj(s:List Nat)(x:Nat):List Nat:=if x∈s then s else s++[x]
def Vx(s:List Nat)(x:Nat):List Nat:=s.filter (fun y=>decide (y≠x))
theorem Qt2(s:List Nat)(x:Nat):Q1 (x:Int) (Xy s)=if x∈s then some (.agg #[]) else none:=by
 induction s with
 | nil=>rfl
 | cons y s ih=>
  rw[Xy,List.map_cons,Q1]
  by_cases e:x=y
  ·subst e;rw[if_pos rfl,if_pos (List.mem_cons_self ..)]
  ·rw[if_neg (by omega)];show Q1 (x:Int) (Xy s)=_;rw[ih]
   by_cases h:x∈s
   ·rw[if_pos h,if_pos (List.mem_cons_of_mem _ h)]
   ·rw[if_neg h,if_neg (by simp[e,h])]
theorem Qt1(s:List Nat)(x:Nat):Yd (x:Int) (.agg #[]) (Xy s)=Xy (Yj s x):=by
 have key:∀s:List Nat,Yd (x:Int) (.agg #[]) (Xy s)=if x∈s then Xy s else Xy s++[((x:Int),.agg #[])]:=by
  intro s;induction s with
  | nil=>rfl
  | cons y s ih=>
   have e0:Xy (y::s)=((y:Int),Value.agg #[])::Xy s:=rfl;rw[e0,Yd]
   by_cases e:x=y
   ·subst e;rw[if_pos rfl,if_pos (List.mem_cons_self ..)]
   ·rw[if_neg (by show ¬(x:Int)=y;omega),ih]
    by_cases h:x∈s
    ·rw[if_pos h,if_pos (List.mem_cons_of_mem _ h)]
    ·rw[if_neg h,if_neg (by simp[e,h])];rfl
 rw[key,Yj]
 split
 ·rfl
 ·simp[Xy]
theorem Qad{s:List Nat}(h:((Xy s).map (·.1)).Nodup):s.Nodup:=by
 have e:(Xy s).map (·.1)=s.map fun x:Nat=>(x:Int):=by rw[Xy,List.map_map];rfl
 rw[e]at h;exact List.pairwise_map.1 h |>.imp fun h e=>h (by rw[e])
theorem M4{s:List Nat}(x:Nat)(hn:s.Nodup):Ko (x:Int) (Xy s)=Xy (Vx s x):=by
 induction s with
 | nil=>rfl
 | cons y s ih=>
  obtain⟨h1,h2⟩:=List.nodup_cons.1 hn;have e0:Xy (y::s)=((y:Int),Value.agg #[])::Xy s:=rfl;rw[e0,Ko,Vx,List.filter_cons]
  by_cases e:x=y
  ·subst e;rw[if_pos rfl,if_neg (by simp)]
   congr 1
   refine(List.filter_eq_self.2 fun z hz=>?_).symm;rw[decide_eq_true_eq];intro e;exact h1 (e ▸ hz)
  ·rw[if_neg (by show ¬(x:Int)=y;omega),if_pos (by rw[decide_eq_true_eq];intro h;exact e h.symm),ih h2];rfl
theorem F5(s:List Nat):(Xy s).length=s.length:=by rw[Xy,List.length_map]
theorem Qag{s:List Nat}(h:s.Nodup)(x:Nat):(Vx s x).Nodup:=h.filter _
theorem Qvj{s:List Nat}{x y:Nat}:y∈Yj s x↔y∈s∨y=x:=by
 unfold Yj
 split
 ·rename_i h;exact⟨.inl,fun h2=>h2.elim id fun e=>e ▸ h⟩
 ·rw[List.mem_append,List.mem_singleton]
def Xz(b:Option Nat)(s:Option (List Nat)):Assn:=match b,s with
 | none,none=>fun _=>True
 | some b,some s=>Qk b .i64 (Xy s)
 | _,_=>fun _=>False
theorem Ent.Pg(Γ:List Assn):Ent Γ (Xz none none::Γ):=fun h hs=>⟨HL.emp,h,HL.Ul _,HL.U6 _,HL.le.refl _,trivial,hs⟩
theorem Sat.Q4m{w:World}{b:Option Nat}{s:Option (List Nat)}{Γ:List Assn}(h:Sat w (Xz b s::Γ)):b.isSome=s.isSome:=by
 obtain⟨x,_,p⟩:=h.head;cases b <;> cases s <;> first|rfl|exact absurd p id
end Go.Proofs.YtdackcibfkkniaaGreatDoor
