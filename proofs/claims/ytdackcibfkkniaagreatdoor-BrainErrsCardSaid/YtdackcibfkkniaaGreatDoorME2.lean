/- Texts put together. -/
import Derived.RangeFuncIn
import Derived.RangeFuncRecord
import Derived.RangeFuncLeaves
import Derived.RangeFuncSeq
import Derived.OwnWalkIn
import Derived.Shelf.SlSortCmp.NoneTotal
import Derived.Shelf.SlGeneric
import Derived.Ground.SlsfProg
import Derived.Shelf.Sort.Plain
import Derived.Shelf.Slices.In.SortNone
import Derived.Shelf.Bits.Mul64
import Derived.Test.YtdackcibfkkniaaGreatDoorME1
set_option synthInstance.maxSize 9999
set_option synthInstance.maxHeartbeats 400000
set_option maxRecDepth 20000
namespace Go.Proofs.YtdackcibfkkniaaGreatDoor
open Go.RowKit
def isDefer:Op→Bool
 | .defer _=>true
 | _=>false
theorem not_defer {op:Op} (h:isDefer op=false):∀c,op≠.defer c:=fun c e=>by rw[e]at h;cases h
theorem rows_in {P:Program} {m:Nat} {ro:Option Nat} {row:String} {args:Array Value} {w:World} {R:Value→World→Prop} (h:Rows P row args w R):RowsIn {Fence.wide with round:=ro} m P row args w R:=
 fun c cs _=>let ⟨v,w',r,s⟩:=h c cs;⟨v,w',r,(stepsIn_wide.2 s:StepsIn (Machine.fenced P Fence.wide) P _ _)⟩
theorem oper_in {P:Program} {m:Nat} {ro:Option Nat} {o:Oper} {a:Act} {w:World} {next:Act→World→Prop} {Q:Exit→Act→World→Prop} (hd:isDefer o.op=false)
  (h:o.wp P a w next Q):o.wpIn {Fence.wide with round:=ro} m P a w next Q:=by
 unfold Oper.wpIn;refine⟨fun _ _=>trivial,?_⟩;rw[Oper.semAt_plain _ _ _ (not_defer hd)];unfold Oper.wp at h;cases hr:(execOp a.eval o).run P w with
 | ok nx w'=>
  rw[hr]at h;cases nx with
  | enter f args=>exact⟨fun hd=>by simp[Fence.wide]at hd,(callsIn_wide.2 h:CallsIn Fence.wide (m-1) P f args w' _)⟩
  | row row args=>exact⟨fun hd=>by simp[Fence.wide]at hd,rows_in h⟩
  | round=>exact h.elim
  | _=>exact h
 | halt x w'=>rw[hr]at h;cases x <;> exact h
def wpLI (F:Fence) (m:Nat) (P:Program) (Q:Exit→Act→World→Prop):List Oper→Act→World→Prop
 | [],a,w=>Q .normal a w
 | o::rest,a,w=>o.wpIn F m P a w (wpLI F m P Q rest) Q
theorem Oper.wpIn_mono' {F:Fence} {m:Nat} {P:Program} {o:Oper} {a:Act} {w:World} {k k':Act→World→Prop} {Q:Exit→Act→World→Prop} (hk:∀a w,k a w→k' a w) (h:o.wpIn F m P a w k Q):o.wpIn F m P a w k' Q:=by
 obtain⟨h1,h2⟩:=h;refine⟨h1,?_⟩;cases hr:(o.semAt F.round a.eval).run P w with
 | ok nx w'=>
  rw[hr]at h2;cases nx with
  | value v=>exact hk _ _ h2
  | skip=>exact hk _ _ h2
  | defer d=>exact hk _ _ h2
  | enter f args=>
   refine⟨h2.1,h2.2.1,fun cs hc=>?_⟩;obtain⟨e,w2,fr,r,s,x⟩:=h2.2.2 cs hc;refine⟨e,w2,fr,?_,s,x⟩;cases e <;> first | exact hk _ _ r | exact r
  | row row args=>exact⟨h2.1,h2.2.mono fun v w2 r=>hk _ _ r⟩
  | round l f tmps assign body=>
   refine⟨h2.1,h2.2.mono fun e w2 r=>?_⟩;cases e <;> first | exact hk _ _ r | exact r
  | _=>exact h2
 | halt x w'=>rw[hr]at h2;cases x <;> exact h2
theorem wpLI_sound {F:Fence} {m:Nat} {P:Program} {Q:Exit→Act→World→Prop} {ops:Array Oper}:∀(l:List Oper),(l.all fun o=>o.guard.isNone)=true→∀a w,wpLI F m P Q l a w→wpListIn F m P ops Q l a w:=by
 intro l;induction l with
 | nil=>intro _ a w h;exact h
 | cons o l ih=>
  intro hg a w h;simp only[List.all_cons,Bool.and_eq_true,Option.isNone_iff_eq_none]at hg;unfold wpListIn;rw[if_pos (by simp[Region.wanted,hg.1])];exact Oper.wpIn_mono' (ih hg.2) h
def loopA (l:Nat) (r:Loop):Assn:=fun h=>h l=some (.loop r)
def defA (D:Nat):Assn:=fun h=>h D=some (.deferred (some []))
theorem Sat.isLoop {w:World} {l:Nat} {r:Loop} {Γ:List Assn} (h:Sat w (loopA l r::Γ)):w.heap[l]?=some (.loop r):=by
 obtain⟨x,le,p⟩:=h.head;exact le l _ p
theorem Sat.isDef {w:World} {D:Nat} {Γ:List Assn} (h:Sat w (defA D::Γ)):w.heap[D]?=some (.deferred (some [])):=by
 obtain⟨x,le,p⟩:=h.head;exact le D _ p
theorem Sat.putLoop {w:World} {l:Nat} {r:Loop} {Γ:List Assn} (h:Sat w (loopA l r::Γ)) (r':Loop):Sat (w.putObj l (.loop r')) (loopA l r'::Γ):=
 Sat.setObj h (.loop r') (fun _ p=>⟨_,p⟩) (HL.one_self _ _)
theorem Sat.newObj {w:World} {Γ:List Assn} (h:Sat w Γ) (o:Obj) (A:Nat→Assn) (hA:∀b,A b (HL.one b o)):Sat (w.alloc o) (A w.heap.size::Γ):=by
 have h0:Sat w ((fun _=>True:Assn)::Γ):=by
  obtain⟨y,l,s⟩:=h;exact⟨y,l,HL.emp,y,HL.emp_disj _,HL.emp_le _,HL.le.refl _,trivial,s⟩
 refine h0.upd fun y _ _=>⟨HL.one w.heap.size o,HL.one_le (hx_new rfl),hA _,fun c _ hc=>?_⟩
 have hlt:c<w.heap.size:=by
  rcases Nat.lt_or_ge c w.heap.size with h | h
  ·exact h
  ·simp[Array.getElem?_eq_none h]at hc
 exact⟨HL.one_none (by omega),Below.heap_alloc _ _ _ hlt⟩
def SeqS {α:Type} (P:Program) (gf:FuncId) (fs cs:List Value) (enc:α→Value) (G:List α→α→Prop) (E:List α→Prop) (pre:List Assn):Prop:=
 ∀(l:Nat) (w0:WM false) (J:List α→List Assn),
  (∀(done:List α) (x:α) (Γ:List Assn) (w:World),G done x→Sat w (J done++Γ)→Ext w0 w→YieldAt Fence.wide 0 P l #[enc x] w fun e w'=>e=.returned (.bool true)∧Sat w' (J (done++[x])++Γ)∧Ext w0 w') →
  ∀(Γ:List Assn) (w:World),Sat w (pre++(J []++Γ))→Ext w0 w →
   CallsIn Fence.wide 0 P gf (fs.toArray++#[.func (.yield l) #[] #[]]++cs.toArray) w fun e w'=>(∃v,e=.returned v)∧∃xs,E xs∧Sat w' (pre++(J xs++Γ))∧Ext w0 w'
theorem rangeS {α:Type} {P:Program} {g:Operand} {p:Tmp} {assign body:Code} {Q:Exit→Act→World→Prop} {a:Act} {w:World} {w0:WM false} {gf:FuncId} {fs cs:List Value} {enc:α→Value} {G:List α→α→Prop} {E:List α→Prop} {pre:List Assn}
  (hg:a.eval g=.func (.func gf) fs.toArray cs.toArray) (he:enterT P gf=true) (hseq:SeqS P gf fs cs enc G E pre) (I:List α→List Assn) {Γ:List Assn} (hs:Sat w (pre++(I []++Γ))) (hx:Ext w0 w)
  (a₁:α→Act) (hassign:∀(l:Nat) (x:α) (W:World) (K:Act→World→Prop),K (a₁ x) W→assign.wpIn (Fence.wide.inRound l) 0 P (Exit.then K (fun _ _ _=>False)) {tmps:=a.tmps.setIfInBounds p (enc x),defers:=[]} W)
  (hbody:∀(l:Nat) (done:List α) (x:α) (Θ:List Assn) (W:World),G done x→Sat W (I done++Θ)→Ext w0 W →
   body.wpIn (Fence.wide.inRound l) 0 P (fun e _ W'=>e=.normal∧Sat W' (I (done++[x])++Θ)∧Ext w0 W') (a₁ x) W)
  (hdone:∀(D:Nat) (xs:List α) (W:World),E xs→Sat W (defA D::(pre++(I xs++Γ)))→Ext w0 W→Q .normal {a with defers:={target:=.collected D,args:=#[]}::a.defers} W) :
  (Code.rangeFunc g #[p] assign body).wpIn Fence.wide 0 P Q a w:=by
 refine wpIn_rangeFunc fun fn _=>?_;obtain⟨rec,hrec⟩:∃rec:LoopState→Loop,rec=fun st=>{state:=st,pending:=none,fn,tmps:=a.tmps,params:=#[p],assign,body,defers:=w.heap.size}:=⟨_,rfl⟩;obtain⟨W1,hW1⟩:∃W1,(w.alloc (.deferred (some []))).alloc (.loop (rec .ready))=W1:=⟨_,rfl⟩
 have hs1:Sat W1 (loopA (w.heap.size+1) (rec .ready)::defA w.heap.size::(pre++(I []++Γ))):=by
  have h1:=hs.newObj (.deferred (some [])) defA fun b=>HL.one_self _ _;have h2:=h1.newObj (.loop (rec .ready)) (fun b=>loopA b (rec .ready)) fun b=>HL.one_self _ _;rw[World.size_alloc,hW1]at h2;exact h2
 have hx1:Ext w0 W1:=by rw[←hW1];exact(hx.alloc _).alloc _
 refine⟨w.heap.size+1,[{target:=.collected w.heap.size,args:=#[]}],W1,{target:=.fn (.func gf) cs.toArray,args:=fs.toArray++#[.func (.yield (w.heap.size+1)) #[] #[]]},W1,gf,
  fs.toArray++#[.func (.yield (w.heap.size+1)) #[] #[]]++cs.toArray,W1,?_,?_,fun _ _=>trivial,?_,fun h=>by simp[Fence.wide]at h,?_⟩
 ·rw[←hW1,hrec];exact run_enterLoop_outer _ _ _ _ _
 ·simp only[resolve,hg];simp[go_sem]
 ·have hcf:∀args w,(callFunc gf args).run P w=.ok (.enter gf args) w:=fun args w=>by
   unfold enterT at he
   split at he
   ·rename_i f hf;simp only[Bool.and_eq_true,bne_iff_ne,ne_eq]at he;obtain⟨h1,h2⟩:=he;have h2':¬f.body=none:=by cases hb:f.body <;> simp[hb]at h2 ⊢
    simp[callFunc,hf,h1,h2']
   ·cases he
  simp[invoke,go_sem,hcf]
 ·have hent:∀(st:LoopState) (done:List α),Ent (loopA (w.heap.size+1) (rec st)::defA w.heap.size::(pre++(I done++Γ))) (pre++((loopA (w.heap.size+1) (rec st)::I done)++(defA w.heap.size::Γ))):=fun st done=>
   ((Ent.cons _ (Ent.cons _ (Ent.pack pre _))).trans ((Ent.cons _ (Ent.swap _ _ _)).trans (Ent.swap _ _ _))).trans ((Ent.cons (stars pre) ((Ent.cons _ ((Ent.cons _ (Ent.pack (I done) Γ)).trans ((Ent.swap _ _ _).trans (Ent.unpack (I done) _)))))).trans (Ent.unpack pre _))
  have hback:∀(st:LoopState) (done:List α),Ent (pre++((loopA (w.heap.size+1) (rec st)::I done)++(defA w.heap.size::Γ))) (loopA (w.heap.size+1) (rec st)::defA w.heap.size::(pre++(I done++Γ))):=fun st done=>
   (Ent.pack pre _).trans ((Ent.cons _ (Ent.cons _ ((Ent.pack (I done) _).trans ((Ent.swap _ _ _).trans (Ent.cons _ (Ent.unpack (I done) Γ)))))).trans ((Ent.swap _ _ _).trans (Ent.cons _ ((Ent.swap _ _ _).trans (Ent.cons _ (Ent.unpack pre _))))))
  have hcall:=hseq (w.heap.size+1) w0 (fun done=>loopA (w.heap.size+1) (rec .ready)::I done) ?_ (defA w.heap.size::Γ) W1 (hs1.ent (hent _ _)) hx1
  ·obtain⟨hc1,hc2⟩:=hcall;refine⟨trivial,fun fr hr=>?_⟩;obtain⟨e,w',f',⟨⟨v,rfl⟩,xs,hE,hs',hx'⟩,st,rest⟩:=hc2 fr hr;refine⟨_,w',f',?_,st,rest⟩;have hs2:=hs'.ent (hback _ _);have hl2:=hs2.isLoop;have hend:=run_endLoop (P:=P) hl2 (by rw[hrec];simp);have hp:(rec .ready).pending=none:=by rw[hrec]
   obtain⟨W2,hW2⟩:∃W2,W2=w'.putObj (w.heap.size+1) (.loop {rec .ready with state:=.exhausted}):=⟨_,rfl⟩;rw[←hW2,hp]at hend;refine⟨none,W2,hend,?_⟩;rw[hW2]
   refine hdone w.heap.size xs _ hE ?_ ?_
   ·have:=hs2.putLoop ({rec .ready with state:=.exhausted});exact(this.ent (Ent.drop _ _))
   ·exact hx'.setObj _ _
  ·intro done x Θ W hxs hsat hext;have hl:=(show Sat W (loopA (w.heap.size+1) (rec .ready)::(I done++Θ)) from hsat).isLoop
   have hy:(Instr.yield (w.heap.size+1) #[enc x]).run P W=.ok (.round (w.heap.size+1) fn (a.tmps.setIfInBounds p (enc x)) assign body) W:=by
    have:=run_yield (P:=P) (args:=#[enc x]) hl (by rw[hrec];rfl);rw[hrec]at this
    simpa using this
   refine⟨fn,_,assign,body,hy,roundIn_of_wpIn (F:=Fence.wide) trivial ?_⟩;have hsB:=(show Sat W (loopA (w.heap.size+1) (rec .ready)::(I done++Θ)) from hsat).putLoop {rec .ready with state:=.busy};refine hassign (w.heap.size+1) x W _ ?_;refine⟨_,run_beginRound hl (by rw[hrec]),?_⟩;have hsB':Sat (W.putObj (w.heap.size+1) (.loop {rec .ready with state:=.busy})) (I done++(loopA (w.heap.size+1) {rec .ready with state:=.busy}::Θ)):=hsB.ent (((Ent.cons _ (Ent.pack (I done) Θ)).trans (Ent.swap _ _ _)).trans (Ent.unpack (I done) _));refine wpIn_mono (hbody (w.heap.size+1) done x _ _ hxs hsB' (hext.setObj _ _)) ?_;rintro e a3 W3 ⟨rfl,hs3,hx3⟩;have hs4:Sat W3 (loopA (w.heap.size+1) {rec .ready with state:=.busy}::(I (done++[x])++Θ)):=hs3.ent ((Ent.pack (I (done++[x])) _).trans ((Ent.swap _ _ _).trans (Ent.cons _ (Ent.unpack (I (done++[x])) Θ))));have hl3:=hs4.isLoop;have hend:=run_endRound (P:=P) none hl3;refine⟨_,_,hend,rfl,?_,hx3.setObj _ _⟩;have:=hs4.putLoop ({rec .ready with state:=.ready});rw[hrec]at this ⊢;exact this
section
variable {P:Program} {n:Nat} {md:Bool} {w0:WM md} {ρ:Env} {Γ:List Assn} {Q:Exit→Act→World→Prop} {K:Act→World→Prop} {ty:TypeId} {pos:String} {af:Array Edge} {gd:Option (Nat×Bool)} {d:Nat} {ds:Option Tmp}
theorem S.regionR {ro:Option Nat} {id:Nat} {l:List Oper} (hg:(l.all fun o=>o.guard.isNone)=true) (h:S n w0 ρ Γ (wpLI {Fence.wide with round:=ro} 0 P Q l)):S n w0 ρ Γ ((Code.region id l.toArray false).wpIn {Fence.wide with round:=ro} 0 P Q):=
 fun a w ha hs hx=>wpIn_region_lit (wpLI_sound l hg a w (h a w ha hs hx))
theorem S.regionW {id:Nat} {l:List Oper} (hg:(l.all fun o=>o.guard.isNone)=true) (h:S n w0 ρ Γ (wpLI {Fence.wide with round:=none} 0 P Q l)):S n w0 ρ Γ ((Code.region id l.toArray false).wp P Q):=
 fun a w ha hs hx=>wpIn_wide.1 (S.regionR (ro:=none) hg h a w ha hs hx:(Code.region id l.toArray false).wpIn Fence.wide 0 P Q a w)
theorem S.opI {ro:Option Nat} {o:Oper} {rest:List Oper} (hd:isDefer o.op=false) (h:S n w0 ρ Γ (Ow P Q o (wpLI {Fence.wide with round:=ro} 0 P Q rest))):S n w0 ρ Γ (wpLI {Fence.wide with round:=ro} 0 P Q (o::rest)):=
 fun a w ha hs hx=>oper_in hd (h a w ha hs hx)
theorem S.nilI {F:Fence} (h:S n w0 ρ Γ (Q .normal)):S n w0 ρ Γ (wpLI F 0 P Q []):=h
theorem S.yieldI {x y:Operand} {ats:Array TypeId} {l:Nat} {u:Value} {rest:List Oper} {Γ':List Assn} {w0:WM false} (hx:ev ρ x=some (.func (.yield l) #[] #[])) (hy:ev ρ y=some u)
  (hY:∀w,Sat w Γ→Ext w0 w→YieldAt Fence.wide 0 P l #[u] w fun e w'=>e=.returned (.bool true)∧Sat w' Γ'∧Ext w0 w') (hn:Nat.blt d n=true)
  (k:S n w0 ((d,.bool true)::ρ) Γ' (wpLI {Fence.wide with round:=none} 0 P Q rest)):S n w0 ρ Γ (wpLI {Fence.wide with round:=none} 0 P Q (⟨some d,.call {callee:=.value x,args:=#[y],argTypes:=ats},ty,pos,af,gd⟩::rest)):=by
 intro a w ha hs hx';obtain⟨fn,tmps,assign,body,hy1,hR⟩:=hY w hs hx';refine⟨fun _ _=>trivial,?_⟩;rw[Oper.semAt_plain _ _ _ (not_defer rfl)]
 have hr:(execOp a.eval ⟨some d,.call {callee:=.value x,args:=#[y],argTypes:=ats},ty,pos,af,gd⟩).run P w=.ok (.round l fn tmps assign body) w:=by
  simp[execOp,resolve,ha.ev hx,ha.ev hy,Deferred.ofValue,invoke,hy1]
 rw[hr];refine⟨fun h=>by simp[Fence.wide]at h,?_⟩;refine RoundIn.mono (show RoundIn Fence.wide 0 P l fn tmps assign body w _ from hR) ?_;rintro e w' ⟨rfl,hs',hx2⟩;exact k _ _ (ha.put hn _) hs' hx2
theorem calls_of_S {f:FuncId} {fn:Func} {c:Code} {l:List Value} {R:Ending→World→Prop} (hf:P.funcs[f]?=some fn) (hb:fn.body=some c) (hn:fn.ntmps=n) (hl:Nat.ble l.length n=true)
  (h:S n w0 (argEnv 0 l) Γ (c.wp P (bodyPost P fn R))) {w:World} (hs:Sat w Γ) (hx:Ext w0 w):Calls P f l.toArray w R:=by
 refine calls_of_wp hf hb (h _ w ⟨?_,rfl,fun t v hv=>?_⟩ hs hx)
 ·have:=Nat.le_of_ble_eq_true hl;simp[hn];omega
 ·obtain⟨_,h2⟩:=argEnv_get l 0 t v hv;simp only[Nat.sub_zero]at h2;have hlt:t<l.length:=(List.getElem?_eq_some_iff.1 h2).1;have:=(List.getElem?_eq_some_iff.1 h2).2;simp[Array.getElem?_append_left,hlt,this]
theorem S.finR {fn:Func} {R:Ending→World→Prop} (hr:fn.results=#[]) (h:∀v w,Sat w Γ→Ext w0 w→R (.returned v) w):S n w0 ρ Γ (bodyPost P fn R .normal):=by
 intro a w ha hs hx;exact⟨ha.defers,_,results_none hr _ _ _,h _ w hs hx⟩
def withD (ds:List Deferred) (φ:Act→World→Prop):Act→World→Prop:=fun a w=>φ {a with defers:=ds} w
theorem S.regionD {id:Nat} {l:List Oper} {df:List Deferred} (hg:(l.all fun o=>o.guard.isNone)=true) (h:S n w0 ρ Γ (withD df (wpL P Q l))):S n w0 ρ Γ (withD df ((Code.region id l.toArray false).wp P Q)):=
 fun a w ha hs hx=>wp_region_lit (wpL_sound l hg _ w (h a w ha hs hx))
theorem S.qD {o:Oper} {v:Value} {rest:List Oper} {df:List Deferred} (h:Qv P n ρ Γ o v) (hd:o.dst=some d) (hn:Nat.blt d n=true) (k:S n w0 ((d,v)::ρ) Γ (withD df (wpL P Q rest))):S n w0 ρ Γ (withD df (wpL P Q (o::rest))):=by
 intro a w ha hs hx;show o.wp P {a with defers:=df} w _ _;have hr:(execOp ({a with defers:=df}:Act).eval o).run P w=.ok (.value v) w:=h a w ha hs;unfold Oper.wp;rw[hr,Oper.upon_value,hd];exact k _ _ (ha.put hn v) hs hx
theorem S.nilD {df:List Deferred} (h:S n w0 ρ Γ (withD df (Q .normal))):S n w0 ρ Γ (withD df (wpL P Q [])):=h
theorem S.seqD {x y:Code} {df:List Deferred} (h:S n w0 ρ Γ (withD df (x.wp P (Exit.then (y.wp P Q) Q)))):S n w0 ρ Γ (withD df ((Code.seq x y).wp P Q)):=fun a w ha hs hx=>wp_seq (h a w ha hs hx)
theorem S.seq1 {x y:Code} (h:S n w0 ρ Γ (x.wp P (Exit.then (y.wp P Q) Q))):S n w0 ρ Γ ((Code.seq x y).wp P Q):=fun a w ha hs hx=>wp_seq (h a w ha hs hx)
theorem S.retD {df:List Deferred} (h:S n w0 ρ Γ (withD df (Q .ret))):S n w0 ρ Γ (withD df (Code.ret.wp P Q)):=fun a w ha hs hx=>wp_ret (h a w ha hs hx)
def FinM (P:Program) (fn:Func) (post:List Assn→Value→List Assn→Prop) (Γ:List Assn) (w0:WM false):Exit→Act→World→Prop:=
 bodyPostM Fence.wide 0 P fn fun e w'=>∃v Θ,e=.returned v∧post Γ v Θ∧Sat w' Θ∧Ext w0 w'
theorem Spec.of_bodyM {f:FuncId} {fn:Func} {c:Code} {l:List Value} {pre:List Assn} {post:List Assn→Value→List Assn→Prop} (hf:P.funcs[f]?=some fn) (hb:fn.body=some c) (hn:fn.ntmps=n) (hl:Nat.ble l.length n=true)
  (h:∀(w0:WM false) Γ,S n w0 (argEnv 0 l) (pre++Γ) (c.wp P (FinM P fn post Γ w0))):Spec P f l pre post:=by
 intro Γ w hs
 have h1:c.wp P (FinM P fn post Γ ⟨w⟩) {tmps:=l.toArray++Array.replicate (fn.ntmps-l.toArray.size) undef,defers:=[]} w:=by
  refine h ⟨w⟩ Γ _ w ⟨?_,rfl,fun t v hv=>?_⟩ hs (Ext.refl _)
  ·have:=Nat.le_of_ble_eq_true hl;simp[hn];omega
  ·obtain⟨_,h2⟩:=argEnv_get l 0 t v hv;simp only[Nat.sub_zero]at h2;have hlt:t<l.length:=(List.getElem?_eq_some_iff.1 h2).1;have:=(List.getElem?_eq_some_iff.1 h2).2;simp[Array.getElem?_append_left,hlt,this]
 exact callsIn_wide.1 (callsIn_of_wp_marks (F:=Fence.wide) (n:=0) hf hb trivial (wpIn_wide.2 h1) rfl)
theorem S.finM {fn:Func} {post:List Assn→Value→List Assn→Prop} {Γf Θ:List Assn} {rs:List ResultVar} {vs:List Value} {D:Nat} {w0:WM false} (hr:fn.results=rs.toArray) (hl:ResL P ρ Θ rs vs) (hp:post Γf (resV vs) Θ) (he:Ent Γ (defA D::Θ)) :
  S n w0 ρ Γ (withD [{target:=.collected D,args:=#[]}] (FinM P fn post Γf w0 .ret)):=by
 intro a w ha hs hx;have hs1:=hs.ent he;have hk:=hs1.isDef;refine⟨(by simp),.inl ⟨D,_,rfl,run_takeDeferred hk,?_⟩⟩
 have hs2:Sat (w.putObj D (.deferred none)) Θ:=by
  have:Sat (w.putObj D (.deferred none)) ((fun h=>h D=some (.deferred none))::Θ):=Sat.setObj hs1 (.deferred none) (fun _ p=>⟨_,p⟩) (HL.one_self _ _);exact this.ent (Ent.drop _ _)
 exact⟨_,(run_results hr hl ha hs2:(results fn a.tmps).run P _=_),_,Θ,rfl,hp,hs2,hx.setObj _ _⟩
theorem S.rangeF {α:Type} {g:Operand} {p q:Nat} {id:Nat} {body:Code} {w0:WM false} {gf:FuncId} {fs cs:List Value} {enc:α→Value} {G:List α→α→Prop} {E:List α→Prop} {pre Γ':List Assn} {t1:TypeId} {s1:String} {af1:Array Edge}
  (hg:ev ρ g=some (.func (.func gf) fs.toArray cs.toArray)) (he:enterT P gf=true) (hseq:SeqS P gf fs cs enc G E pre) (I:List α→List Assn) (hI:Ent Γ (pre++(I []++Γ'))) (hp:Nat.blt p n=true) (hq:Nat.blt q n=true)
  (hbody:∀(l:Nat) (done:List α) (x:α) (Θ:List Assn),G done x →
   S n w0 ((q,enc x)::(p,enc x)::ρ) (I done++Θ) (body.wpIn {Fence.wide with round:=some l} 0 P fun e _ W'=>e=.normal∧Sat W' (I (done++[x])++Θ)∧Ext w0 W'))
  (hdone:∀D xs,E xs→S n w0 ρ (defA D::(pre++(I xs++Γ'))) (withD [{target:=.collected D,args:=#[]}] (Q .normal))) :
  S n w0 ρ Γ ((Code.rangeFunc g #[p] (.region id #[⟨some q,.assign (.tmp p),t1,s1,af1,none⟩] false) body).wp P Q):=by
 intro a w ha hs hx
 refine(wpIn_wide (n:=0)).1 (rangeS (ha.ev hg) he hseq I (hs.ent hI) hx (fun x=>{tmps:=(a.tmps.setIfInBounds p (enc x)).setIfInBounds q (enc x),defers:=[]}) ?_ ?_ ?_)
 ·intro l x W K hK;have hps:p<a.tmps.size:=by rw[ha.size];have:=hp;simp[Nat.blt]at this;omega
  refine wpIn_region_lit (l:=[⟨some q,.assign (.tmp p),t1,s1,af1,none⟩]) (wpLI_sound _ rfl _ _ (oper_in (ro:=some l) rfl ?_));unfold Oper.wp;have hv:({tmps:=a.tmps.setIfInBounds p (enc x),defers:=[]}:Act).eval (.tmp p)=enc x:=by simp[Act.eval,hps]
  have hr:(execOp ({tmps:=a.tmps.setIfInBounds p (enc x),defers:=[]}:Act).eval ⟨some q,.assign (.tmp p),t1,s1,af1,none⟩).run P W=.ok (.value (enc x)) W:=by
   simp only[execOp,hv,Sem.run_pure]
  rw[hr,Oper.upon_value];exact hK
 ·intro l done x Θ W hxs hsW hxW
  have ha2:EnvOk n ((q,enc x)::(p,enc x)::ρ) {tmps:=(a.tmps.setIfInBounds p (enc x)).setIfInBounds q (enc x),defers:=[]}:=by
   have h1:=(ha.put hp (enc x)).put hq (enc x);exact⟨h1.size,rfl,h1.get⟩
  exact hbody l done x Θ hxs _ W ha2 hsW hxW
 ·intro D xs W hE hsW hxW;have:=hdone D xs hE a W ha hsW hxW;rw[ha.defers];exact this
theorem S.blockR {F:Fence} {id:Nat} {c:Code} (h:S n w0 ρ Γ (c.wpIn F 0 P (Exit.inBlock id Q))):S n w0 ρ Γ ((Code.block id c).wpIn F 0 P Q):=fun a w ha hs hx=>wpIn_block (h a w ha hs hx)
theorem S.endR {Δ:List Assn} (he:Ent Γ Δ):S n w0 ρ Γ (fun _ W'=>Exit.normal=Exit.normal∧Sat W' Δ∧Ext w0 W'):=fun _ _ _ hs hx=>⟨rfl,hs.ent he,hx⟩
def outA (b:Nat) (T E:TypeId) (done:List Value):Assn:=fun h=>∃sv:SV,sv.n=done.length∧stars [blk b T #[sv.v],own sv E 1 done] h
theorem Ent.outA {b:Nat} {T E:TypeId} {done:List Value} (sv:SV) (hn:sv.n=done.length) (Γ:List Assn):Ent (blk b T #[sv.v]::own sv E 1 done::Γ) (outA b T E done::Γ):=
 (Ent.pack [blk b T #[sv.v],own sv E 1 done] Γ).trans (Ent.mono1 Γ fun _ p=>⟨sv,hn,p⟩)
theorem S.outA {φ:Act→World→Prop} {b:Nat} {T E:TypeId} {done:List Value} {Δ:List Assn} [p:Pick (outA b T E done) Γ Δ] (k:∀sv:SV,sv.n=done.length→S n w0 ρ (blk b T #[sv.v]::own sv E 1 done::Δ) φ):S n w0 ρ Γ φ:=by
 intro a w ha hs hx;obtain⟨h0,l,h1,h2,d,l1,l2,⟨sv,hn,q⟩,s⟩:=hs.ent p.ent;exact k sv hn a w ha ⟨h0,l,(Ent.unpack [blk b T #[sv.v],own sv E 1 done] Δ) _ ⟨h1,h2,d,l1,l2,q,s⟩⟩ hx
end
abbrev nv (i:Nat):Value:=.int .i64 (i:Int)
theorem each_seq (s:Bs) {W:World} (hW:TabW W):SeqS Tryz.prog 103 [bsv s] [] nv (fun done x=>∃rest,lst s=done++x::rest) (fun xs=>xs=lst s) [old W]:=by
 intro l w0 J hY Γ w hs hx;refine callsIn_wide.2 (calls_of_S (n:=15) (l:=[bsv s,.func (.yield l) #[] #[]]) (Γ:=stars (J [])::old W::Γ) (w0:=w0) Tryz.func103 rfl Tryz.ntmps103 rfl ?_ (hs.ent ((Ent.cons _ (Ent.pack (J []) Γ)).trans (Ent.swap _ _ _))) hx);show S _ w0 [(0,bsv s),(1,.func (.yield l) #[] #[])] (stars (J [])::old W::Γ) _;refine S.block ?_;refine S.loop (fun m ρ' Γ'=>∃(j:Nat) (u:Bs) (L:List Nat),L=(lst s).take j∧lst u=(lst s).drop j∧j≤(lst s).length∧m=(lst u).length∧ρ'=[(0,bsv u),(1,.func (.yield l) #[] #[])]∧Γ'=stars (J L)::old W::Γ) (m:=_) (ρ0:=_) (Γ0:=_) (⟨0,s,[],rfl,by simp,by omega,rfl,rfl,rfl⟩) (by repeat (first | exact trivial | refine⟨rfl,?_⟩)) Sub.ent ?_;rintro m ρ' Γ' ⟨j,u,L,hL,hu,hj,hm,rfl,rfl⟩;refine S.seq fun K1 hK1=>?_;refine S.seq fun K2 hK2=>?_;refine S.region rfl ?_;refine S.op (S.q (q_move rfl) rfl rfl ?_);refine S.op (S.q (q_ne rfl rfl) rfl rfl ?_);first | with_reducible refine S.nilK ?_ | refine S.nil ?_
 refine hK2 _ _ ?_
 refine S.condD rfl (fun h1=>?_) (fun h1=>?_)
 ·have h0:u≠0#16:=fun e=>h1 (bs_zero.2 e)
  obtain⟨t,r,hl⟩:∃t r,lst u=t::r:=by
   cases e:lst u with
   | nil=>exact absurd (lst_nil.1 e) h0
   | cons t r=>exact⟨t,r,rfl⟩
  have hdr:(lst s).drop j=t::r:=hu.symm.trans hl;have hxs:lst s=L++t::r:=by rw[hL,←hdr,List.take_append_drop]
  refine S.skip ?_
  with_reducible repeat (first | refine S.then_n ?_ | refine S.then_x ?_ | refine S.then_r ?_ | refine S.inBlock_n ?_ | refine S.inBlock_r ?_ | refine S.inBlock_x rfl ?_ | refine S.noGoto_r ?_ | refine S.noGoto_n ?_ | refine S.noGoto_x ?_)
  refine hK1 _ _ ?_;refine S.seq fun K3 hK3=>?_;refine S.block ?_;refine S.seq fun K4 hK4=>?_;refine S.regionW rfl ?_;refine S.opI rfl ?_;refine  (S.q (q_move rfl) rfl rfl ?_);refine S.opI rfl ?_;refine  (S.q (q_move rfl) rfl rfl ?_);refine S.opI rfl ?_;refine  (S.call Eo.h (vs:=[_]) ⟨rfl,trivial⟩ (tz16_S u hW) rfl ?_);rintro v Θ ⟨rfl,rfl⟩;refine S.yieldI rfl rfl (fun w hs hx=>by rw[tz_cons hl];exact hY _ t (old W::Γ) w ⟨r,hxs⟩ (hs.ent ((Ent.swap _ _ _).trans (Ent.unpack _ _))) hx) rfl ?_;refine S.ent (Ent.pack _ _) ?_;refine S.opI rfl ?_;refine  (S.q (q_not rfl) rfl rfl ?_);refine S.nilI ?_;refine hK4 _ _ ?_;refine S.condF rfl ?_;refine S.skip ?_
  with_reducible repeat (first | refine S.then_n ?_ | refine S.then_x ?_ | refine S.then_r ?_ | refine S.inBlock_n ?_ | refine S.inBlock_r ?_ | refine S.inBlock_x rfl ?_ | refine S.noGoto_r ?_ | refine S.noGoto_n ?_ | refine S.noGoto_x ?_)
  with_reducible repeat (first | refine S.then_n ?_ | refine S.then_x ?_ | refine S.then_r ?_ | refine S.inBlock_n ?_ | refine S.inBlock_r ?_ | refine S.inBlock_x rfl ?_ | refine S.noGoto_r ?_ | refine S.noGoto_n ?_ | refine S.noGoto_x ?_)
  refine hK3 _ _ ?_;refine S.region rfl ?_;refine S.op (S.q (q_move rfl) rfl rfl ?_);refine S.op (S.q (q_move rfl) rfl rfl ?_);refine S.op (S.q (q_predB (u) rfl rfl rfl) rfl rfl ?_);refine S.op (S.q (q_andB (u) (u-1#16) rfl rfl (rfl) (rfl)) rfl rfl ?_);refine S.op (S.q (q_assign rfl) rfl rfl ?_);first | with_reducible refine S.nilK ?_ | refine S.nil ?_
  with_reducible repeat (first | refine S.then_n ?_ | refine S.then_x ?_ | refine S.then_r ?_ | refine S.inBlock_n ?_ | refine S.inBlock_r ?_ | refine S.inBlock_x rfl ?_ | refine S.noGoto_r ?_ | refine S.noGoto_n ?_ | refine S.noGoto_x ?_)
  have hlt:0<(lst u).length:=by rw[hl];simp
  have hu2:lst (u &&& (u-1#16))=(lst s).drop (j+1):=by rw[and_pred u h0,lst_butLeast hl,←List.tail_drop,hdr];rfl
  have hj2:j+1≤(lst s).length:=by have:=congrArg List.length hdr;rw[List.length_drop,List.length_cons]at this;omega
  have hm2:m-1=(lst (u &&& (u-1#16))).length:=by rw[hm,and_pred u h0,lst_butLeast hl,hl];simp
  have htk:L++[t]=(lst s).take (j+1):=by rw[List.take_add,hdr,hL];rfl
  exact S.next (m-1) (⟨j+1,u &&& (u-1#16),L++[t],htk,hu2,hj2,hm2,rfl,rfl⟩) (by omega) (by repeat (first | exact trivial | refine⟨rfl,?_⟩)) Sub.ent
 ·have e0:u=0#16:=bs_zero.1 (Classical.byContradiction h1);rw[e0,lst_zero]at hu;have hlen:=List.drop_eq_nil_iff.1 hu.symm;have hall:(lst s).take j=lst s:=List.take_of_length_le hlen;rw[hall]at hL;subst hL;refine S.exit ?_
  with_reducible repeat (first | refine S.then_n ?_ | refine S.then_x ?_ | refine S.then_r ?_ | refine S.inBlock_n ?_ | refine S.inBlock_r ?_ | refine S.inBlock_x rfl ?_ | refine S.noGoto_r ?_ | refine S.noGoto_n ?_ | refine S.noGoto_x ?_)
  with_reducible refine S.inBlock_s ?_
  with_reducible repeat (first | refine S.then_n ?_ | refine S.then_x ?_ | refine S.then_r ?_ | refine S.inBlock_n ?_ | refine S.inBlock_r ?_ | refine S.inBlock_x rfl ?_ | refine S.noGoto_r ?_ | refine S.noGoto_n ?_ | refine S.noGoto_x ?_)
  with_reducible repeat (first | refine S.then_n ?_ | refine S.then_x ?_ | refine S.then_r ?_ | refine S.inBlock_n ?_ | refine S.inBlock_r ?_ | refine S.inBlock_x rfl ?_ | refine S.noGoto_r ?_ | refine S.noGoto_n ?_ | refine S.noGoto_x ?_)
  refine S.finR rfl ?_;exact fun v w hs hx=>⟨⟨v,rfl⟩,_,rfl,hs.ent ((Ent.swap _ _ _).trans (Ent.cons _ (Ent.unpack _ _))),hx⟩
abbrev nds (l:List Nat):List Value:=l.map nv
theorem list_S (s:Bs) {W:World} (hW:TabW W):Spec Tryz.prog 64 [bsv s] [old W] fun Γ v Θ=>∃sv:SV,v=sv.v∧sv.n=(lst s).length∧Θ=own sv 3 1 (nds (lst s))::old W::Γ:=by
 refine Spec.of_bodyM Tryz.func64 rfl Tryz.ntmps64 rfl ?_;intro w0 Γ;show S _ w0 [(0,bsv s)] (old W::Γ) _;refine S.seq fun K1 hK1=>?_;refine S.region rfl ?_;refine S.op (S.q (q_assign rfl) rfl rfl ?_);refine S.nilK ?_;refine hK1 _ _ ?_;refine S.seq fun K2 hK2=>?_;refine S.region rfl ?_;refine S.op (S.alloc Tryz.z66.h rfl ?_);intro b3;refine S.nilK ?_;refine hK2 _ _ ?_;refine S.seq1 ?_;refine S.seq fun K4 hK4=>?_;refine S.region rfl ?_;refine S.op (S.q (q_move rfl) rfl rfl ?_);refine S.op (S.q (q_makeFunc (vs:=[_]) (us:=[]) ⟨rfl,trivial⟩ trivial) rfl rfl ?_);refine S.nilK ?_;refine hK4 _ _ ?_;refine S.block ?_;have hl16:=lst_len s
 refine S.rangeF (fs:=[bsv s]) (cs:=[]) (enc:=nv) (p:=7) (q:=4) rfl Eo.h (each_seq s hW) (fun done=>[outA b3 66 3 (nds done)]) (Γ':=Γ) ?_ rfl rfl ?_ ?_
 ·exact(Ent.swap _ _ _).trans (Ent.cons _ ((Ent.cons _ (Ent.ownNil 3 1)).trans (Ent.outA SV.nil rfl _)))
 ·rintro l done x Θ ⟨rest,hxs⟩;have hdl:done.length<16:=by rw[hxs]at hl16;simp at hl16;omega
  show S _ w0 _ (outA b3 66 3 (nds done)::Θ) _;refine S.outA (b:=b3) (T:=66) (E:=3) (done:=nds done) fun sv hsv=>?_;simp only[List.length_map]at hsv;refine S.blockR (S.regionR rfl ?_);refine S.opI rfl ?_;refine(S.q (q_load Eo.h rfl rfl) rfl rfl ?_);refine S.opI rfl ?_;refine(S.q (q_move rfl) rfl rfl ?_);refine S.opI rfl ?_;refine(S.buildSlice (pvs:=[(_,_)]) [_] Tryz.underlying66 Tryz.inf3.h rfl rfl ⟨⟨rfl,rfl⟩,trivial⟩ rfl rfl ?_);intro b10;refine S.opI rfl ?_;refine(S.appendOw (s:=sv) 1 [nv x] Tryz.underlying66 Tryz.inf3.h rfl rfl rfl (blk_slAt (b:=b10) rfl (show 1≤maxLen by unfold maxLen;omega)) rfl ⟨by omega,by omega⟩ rfl ?_);intro s2 hs2;refine S.opI rfl ?_;refine(S.store (cs':=[_]) Eo.h rfl rfl rfl rfl rfl ?_);refine S.nilI ?_;refine S.endR ?_;have e:nds done++[nv x]=nds (done++[x]):=by simp
  rw[e];exact(Sub.ent (Δ:=blk b3 66 #[s2.v]::own s2 3 1 (nds (done++[x]))::Θ)).trans (Ent.outA s2 (by simp[hs2,hsv]) Θ)
 ·rintro D _ rfl;show S _ w0 _ (defA D::old W::outA b3 66 3 (nds (lst s))::Γ) _;refine S.outA (b:=b3) (T:=66) (E:=3) (done:=nds (lst s)) fun sv hsv=>?_;simp only[List.length_map]at hsv;refine S.seqD (S.regionD rfl ?_);refine S.qD (q_load Eo.h rfl rfl) rfl rfl ?_;refine S.qD (q_assign rfl) rfl rfl ?_;refine S.nilD (S.retD ?_);exact S.finM (rs:=[_]) (vs:=[_]) Tryz.results64 ⟨rfl,trivial⟩ (Θ:=own sv 3 1 (nds (lst s))::old W::Γ) ⟨sv,rfl,hsv,rfl⟩ Sub.ent
theorem alGet_iff {z:Int} {v:Value}:∀ {l:List (Int×Value)},(l.map (·.1)).Nodup→(alGet z l=some v↔(z,v)∈l)
 | [],_=>by simp[alGet]
 | x::l,h=>by
  rw[List.map_cons,List.nodup_cons]at h;unfold alGet
  by_cases e:z=x.1
  ·rw[if_pos e,List.mem_cons]
   constructor
   ·intro e2;cases e2;exact .inl (by rw[e])
   ·rintro (e2 | h2)
    ·rw[←e2]
    ·exact absurd (List.mem_map.2 ⟨_,h2,e⟩) h.1
  ·rw[if_neg e,alGet_iff h.2,List.mem_cons]
   constructor
   ·exact .inr
   ·rintro (e2 | h2)
    ·rw[←e2]at e;exact absurd rfl e
    ·exact h2
theorem alPut_perm {z:Int} {v:Value} {l:List (Int×Value)} (h:z∉l.map (·.1)):(alPut z v l).Perm ((z,v)::l):=by
 cases e:alFind z l 0 with
 | none=>rw[(alFind_none e).1];exact List.perm_append_singleton _ _
 | some p=>
  obtain⟨j,w⟩:=p;obtain⟨k,_,h2,_⟩:=alFind_some e;exact absurd (List.mem_map.2 ⟨_,List.mem_of_getElem? h2,rfl⟩) h
theorem alDel_filter {z:Int}:∀ {l:List (Int×Value)},(l.map (·.1)).Nodup→alDel z l=l.filter fun x=>decide (x.1≠z)
 | [],_=>rfl
 | x::l,h=>by
  rw[List.map_cons,List.nodup_cons]at h;unfold alDel
  by_cases e:z=x.1
  ·rw[if_pos e,List.filter_cons_of_neg (by simp[e])];refine(List.filter_eq_self.2 fun y hy=>?_).symm;have:y.1≠z:=fun e2=>h.1 (List.mem_map.2 ⟨y,hy,e2.trans e⟩)
   simpa using this
  ·rw[if_neg e,List.filter_cons_of_pos (by simpa using fun e2=>e (Eq.symm e2)),alDel_filter h.2]
abbrev jbV (x:Jb):Value:=.agg #[.int .i64 (x.row:Int),bsv x.ns]
abbrev jbE (x:Jb):Int×Value:=((x.id:Int),jbV x)
theorem keys_nodup {js:List Jb} (hs:js.Pairwise (fun a b=>a.id<b.id)):((js.map jbE).map (·.1)).Nodup:=by
 rw[List.map_map];exact List.pairwise_map.2 (hs.imp fun h e=>by simp only[Function.comp]at e;omega)
theorem get_look {js:List Jb} {l:List (Int×Value)} (hs:js.Pairwise (fun a b=>a.id<b.id)) (hl:l.Perm (js.map jbE)) (j:Nat):alGet (j:Int) l=(look js j).map jbV:=by
 have hn:(l.map (·.1)).Nodup:=(hl.map (·.1)).nodup_iff.2 (keys_nodup hs);cases h:look js j with
 | none=>
  refine alGet_notin fun hm=>?_;obtain⟨p,hp,e⟩:=List.mem_map.1 hm;obtain⟨x,hx,rfl⟩:=List.mem_map.1 (hl.mem_iff.1 hp);exact look_none h x hx (by have e:(x.id:Int)=j:=e;omega)
 | some x=>
  obtain⟨h1,h2⟩:=look_some h;exact(alGet_iff hn).2 (hl.mem_iff.2 (List.mem_map.2 ⟨x,h1,by rw[←h2]⟩))
theorem put_perm {js:List Jb} {l:List (Int×Value)} (hl:l.Perm (js.map jbE)) {x:Jb} (hn:∀y∈js,y.id≠x.id):(alPut (x.id:Int) (jbV x) l).Perm ((addJ x js).map jbE):=by
 refine(alPut_perm fun hm=>?_).trans (((hl.cons _).trans (.refl _)).trans ((addJ_perm x js).map jbE).symm);obtain⟨p,hp,e⟩:=List.mem_map.1 hm;obtain⟨y,hy,rfl⟩:=List.mem_map.1 (hl.mem_iff.1 hp);exact hn y hy (by have e:(y.id:Int)=x.id:=e;omega)
theorem del_perm {js:List Jb} {l:List (Int×Value)} (hs:js.Pairwise (fun a b=>a.id<b.id)) (hl:l.Perm (js.map jbE)) (j:Nat):(alDel (j:Int) l).Perm ((delJ j js).map jbE):=by
 have hn:(l.map (·.1)).Nodup:=(hl.map (·.1)).nodup_iff.2 (keys_nodup hs)
 have e:(delJ j js).map jbE=(js.map jbE).filter fun x=>decide (x.1≠(j:Int)):=by
  rw[delJ,List.filter_map];refine congrArg (List.map jbE) (List.filter_congr fun x _=>?_);simp only[Function.comp,ne_eq,decide_not,Bool.not_eq_eq_eq_not,Bool.not_not,decide_eq_decide];omega
 rw[alDel_filter hn,e];exact hl.filter _
abbrev mxC (m:Mx) (mb:Nat) (tv:SV):List Value:=[.int .i64 (m.R:Int),.int .i64 (m.N:Int),bsv m.up,.map (some mb),tv.v]
def tks (m:Mx):List Value:=(List.range m.R).map fun r=>bsv (tk m.js r)
theorem tks_len (m:Mx):(tks m).length=m.R:=by simp[tks]
theorem tks_get {m:Mx} {r:Nat} (h:r<m.R):(tks m)[r]?=some (bsv (tk m.js r)):=by simp[tks,h]
theorem tks_set {m m':Mx} {r:Nat} (hR:m'.R=m.R) (h:∀q,q<m.R→tk m'.js q=if r=q then tk m'.js r else tk m.js q):(tks m).set r (bsv (tk m'.js r))=tks m':=by
 refine List.ext_getElem? fun q=>?_;rw[List.getElem?_set]
 by_cases hq:q<m.R
 ·rw[tks_get (m:=m') (by omega),tks_get hq,h q hq,tks_len]
  by_cases e:r=q
  ·subst e;simp[hq]
  ·rw[if_neg e,if_neg e]
 ·have h1:(tks m)[q]?=none:=List.getElem?_eq_none (by rw[tks_len];omega);have h2:(tks m')[q]?=none:=List.getElem?_eq_none (by rw[tks_len];omega);rw[h1,h2,tks_len]
  by_cases e:r=q
  ·subst e;simp[hq]
  ·rw[if_neg e]
def MI (b:Nat) (m:Mx):Assn:=fun h=>∃(mb:Nat) (tv:SV) (l:List (Int×Value)),MxOk m∧l.Perm (m.js.map jbE)∧tv.n=m.R∧stars [blk b 124 (mxC m mb tv).toArray,mapL mb .u32 l,own tv 119 1 (tks m)] h
section
variable {n:Nat} {md:Bool} {w0:WM md} {ρ:Env} {Γ Δ:List Assn} {φ:Act→World→Prop}
theorem S.miOpen (b:Nat) (m:Mx) [p:Pick (MI b m) Γ Δ] (k:∀mb tv l,MxOk m→l.Perm (m.js.map jbE)→tv.n=m.R→S n w0 ρ (blk b 124 (mxC m mb tv).toArray::mapL mb .u32 l::own tv 119 1 (tks m)::Δ) φ):S n w0 ρ Γ φ:=by
 intro a w ha hs hx;obtain⟨h0,l0,h1,h2,d,l1,l2,⟨mb,tv,l,q1,q2,q3,q4⟩,s⟩:=hs.ent p.ent;exact k mb tv l q1 q2 q3 a w ha ⟨h0,l0,(Ent.unpack [blk b 124 (mxC m mb tv).toArray,mapL mb .u32 l,own tv 119 1 (tks m)] Δ) _ ⟨h1,h2,d,l1,l2,q4,s⟩⟩ hx
theorem S.miClose {b mb:Nat} {m:Mx} {tv:SV} {l:List (Int×Value)} {T e:TypeId} {cs:Array Value} {kk:IntKind} {sz:Nat} {xs:List Value} {Δ' Θ:List Assn} [p:HasB Γ b T cs Δ] [q:HasM Δ mb kk l Δ'] [r:HasOw Δ' tv e sz xs Θ]
  (e1:blk b T cs=blk b 124 (mxC m mb tv).toArray) (e2:mapL mb kk l=mapL mb .u32 l) (e3:own tv e sz xs=own tv 119 1 (tks m)) (h1:MxOk m) (h2:l.Perm (m.js.map jbE)) (h3:tv.n=m.R)
  (k:S n w0 ρ (MI b m::Θ) φ):S n w0 ρ Γ φ:=by
 have q1:Ent Γ (blk b 124 (mxC m mb tv).toArray::mapL mb .u32 l::own tv 119 1 (tks m)::Θ):=by
  rw[←e1,←e2,←e3];exact p.ent.trans (Ent.cons _ (q.ent.trans (Ent.cons _ r.ent)))
 exact S.ent (q1.trans ((Ent.pack [blk b 124 (mxC m mb tv).toArray,mapL mb .u32 l,own tv 119 1 (tks m)] Θ).trans (Ent.mono1 Θ fun _ s=>⟨mb,tv,l,h1,h2,h3,s⟩))) k
end
theorem Spec.miOk {b:Nat} {m:Mx} {P:Program} {f:FuncId} {args:List Value} {pre:List Assn} {post:List Assn→Value→List Assn→Prop} {md:Bool} (h:MxOk m→Spec P f args (MI b m::pre) post md):Spec P f args (MI b m::pre) post md:=by
 intro Γ w hs;obtain⟨_,_,_,_,_,q1,_⟩:=hs.head;exact h q1 Γ w hs
def nodeB (m:Mx) (z:Int):Bool:=decide (0≤z)&&decide (z<m.N)
def rowB (m:Mx) (z:Int):Bool:=decide (0≤z)&&decide (z<m.R)
theorem node_S (b:Nat) (m:Mx) (z:Int):Spec Tryz.prog 69 [.pointer (some ⟨b,0,none⟩),.int .i64 z] [MI b m] fun Γ v Θ=>v=.bool (nodeB m z)∧Θ=MI b m::Γ:=by
 refine Zbd Tryz.func69 rfl Tryz.ntmps69 fun w0 Γ=>Zsh ?_;refine S.miOpen b m fun mb tv l hok hp htn=>?_;refine ZY 8 ?_;refine ZY 5 ?_
 refine Zb 11 ef (fun hg1_6=>?_) (fun hg1_6=>?_)
 ·refine ZY 8 ?_;refine ZY 2 ?_;refine S.miClose (b:=b) (m:=m) (mb:=mb) (tv:=tv) rfl rfl rfl hok hp htn ?_;exact Zf ef Zq (⟨by simp only[resV,nodeB];simp[*],rfl⟩)
 ·refine ZY 8 ?_;refine ZY 2 ?_;refine S.miClose (b:=b) (m:=m) (mb:=mb) (tv:=tv) rfl rfl rfl hok hp htn ?_;exact Zf ef Zq (⟨by simp only[resV,nodeB];simp[*],rfl⟩)
theorem row_S (b:Nat) (m:Mx) (z:Int):Spec Tryz.prog 126 [.pointer (some ⟨b,0,none⟩),.int .i64 z] [MI b m] fun Γ v Θ=>v=.bool (rowB m z)∧Θ=MI b m::Γ:=by
 refine Zbd Tryz.func126 rfl Tryz.ntmps126 fun w0 Γ=>Zsh ?_;refine S.miOpen b m fun mb tv l hok hp htn=>?_;refine ZY 8 ?_;refine ZY 5 ?_
 refine Zb 11 ef (fun hg1_6=>?_) (fun hg1_6=>?_)
 ·refine ZY 8 ?_;refine ZY 2 ?_;refine S.miClose (b:=b) (m:=m) (mb:=mb) (tv:=tv) rfl rfl rfl hok hp htn ?_;exact Zf ef Zq (⟨by simp only[resV,rowB];simp[*],rfl⟩)
 ·refine ZY 8 ?_;refine ZY 2 ?_;refine S.miClose (b:=b) (m:=m) (mb:=mb) (tv:=tv) rfl rfl rfl hok hp htn ?_;exact Zf ef Zq (⟨by simp only[resV,rowB];simp[*],rfl⟩)
theorem stands_S (b:Nat) (m:Mx) (j:Nat):Spec Tryz.prog 63 [.pointer (some ⟨b,0,none⟩),.int .u32 (j:Int)] [MI b m] fun Γ v Θ=>v=.bool (look m.js j).isSome∧Θ=MI b m::Γ:=by
 refine Zbd Tryz.func63 rfl Tryz.ntmps63 fun w0 Γ=>Zsh ?_;refine S.miOpen b m fun mb tv l hok hp htn=>?_;have hg:=get_look hok.srt hp j
 have hj:∃r s,((look m.js j).map jbV).getD (.agg #[.int .i64 0,.int .u16 0])=.agg #[.int .i64 r,.int .u16 s]:=by
  cases look m.js j with
  | none=>exact⟨0,0,rfl⟩
  | some x=>exact⟨_,_,rfl⟩
 obtain⟨jr,jn,hj⟩:=hj;refine ZY 8 ?_;refine ZY 3 ?_;refine Zv (q_lookupOk (.agg #[.int .i64 jr,.int .u16 jn]) ((look m.js j).isSome) Tryz.underlying117 Tryz.underlying31 Tryz.zv121.h rfl rfl rfl (by rw[hg];cases h:look m.js j with | none=>rw[h]at hj;exact Prod.ext hj.symm rfl | some x=>rw[h]at hj;exact Prod.ext hj.symm rfl)) ?_;refine ZY 3 ?_;refine Zp (S.alloc Tryz.z121.h rfl ?_);intro b5;refine Zp (Zs ef ef (cs':=[_,_]) ef ?_);refine ZY 8 ?_;refine S.miClose (b:=b) (m:=m) (mb:=mb) (tv:=tv) rfl rfl rfl hok hp htn ?_;exact Zf ef Zq (⟨rfl,rfl⟩)
def Mx.setUp (m:Mx) (i:Nat) (on:Bool):Mx:={m with up:=if on then m.up ||| BitVec.twoPow 16 i else m.up &&& ~~~BitVec.twoPow 16 i}
theorem MxOk.setUp {m:Mx} (h:MxOk m) {i:Nat} (hi:i<m.N) (on:Bool):MxOk (m.setUp i on):=by
 refine⟨h.R1,h.R8,h.N1,h.N16,fun q hq=>?_,h.srt,h.id1,h.id2,h.row,h.some,h.ns,h.dis⟩;simp only[Mx.setUp]at hq ⊢;cases on with
 | true=>
  rw[if_pos rfl,BitVec.getLsbD_or,Bool.or_eq_true,BitVec.getLsbD_twoPow,Bool.and_eq_true,decide_eq_true_eq,decide_eq_true_eq]at hq
  rcases hq with hq | ⟨_,hq⟩
  ·exact h.up q hq
  ·omega
 | false=>
  rw[if_neg (by decide),BitVec.getLsbD_and,Bool.and_eq_true]at hq;exact h.up q hq.1
def upR (m:Mx) (z:Int) (on:Bool):Int×Mx:=if nodeB m z then (0,m.setUp z.toNat on) else (1,m)
theorem nodeB_iff {m:Mx} {z:Int}:nodeB m z=true↔0≤z∧z<m.N:=by simp[nodeB]
theorem rowB_iff {m:Mx} {z:Int}:rowB m z=true↔0≤z∧z<m.R:=by simp[rowB]
theorem Up_S (b:Nat) (m:Mx) (z:Int) (on:Bool):Spec Tryz.prog 36 [.pointer (some ⟨b,0,none⟩),.int .i64 z,.bool on] [MI b m] fun Γ v Θ=>v=.int .i64 (upR m z on).1∧Θ=MI b (upR m z on).2::Γ:=by
 refine Zbd Tryz.func36 rfl Tryz.ntmps36 fun w0 Γ=>Zsh ?_;refine ZY 8 ?_;refine ZY 4 ?_;refine ZF ef ?_;refine ZY 4 ?_;refine Zp (Zcp Ze (node_S b m z) ?_);refine ZY 3 ?_
 refine Zi ef (fun h2=>?_) (fun h2=>?_)
 ·have hn:nodeB m z=false:=by simpa using h2
  have hu:upR m z on=(1,m):=by simp[upR,hn]
  refine ZY 5 ?_;exact Zf ef Zq (⟨by rw[hu];rfl,by rw[hu]⟩)
 ·have hn:nodeB m z=true:=by simpa using h2
  have hr:=nodeB_iff.1 hn;refine S.miOpen b m fun mb tv l hok hp htn=>?_;have hN:=hok.N16;refine ZY 5 ?_
  refine Zi ef (fun h3=>?_) (fun h3=>?_)
  ·subst h3;have hu:upR m z true=(0,m.setUp z.toNat true):=by simp[upR,hn]
   refine Zd ([blk b 124 (mxC m mb tv).toArray]) [9] (Zra 0 9) ?_;refine ZY 5 ?_;refine Zw ef (q_shlB (z.toNat) rfl rfl (by omega) (by omega)) ?_;refine Zw ef (q_orB (m.up) (BitVec.twoPow 16 z.toNat) rfl rfl (rfl) (rfl)) ?_;refine ZY 2 ?_;refine Z1 (i:=9) ef ef ?_;refine(S.store (cs':=[_,_,_,_,_]) Eo.h rfl rfl rfl rfl rfl ?_);refine ZL ([]) [] ?_;refine ZD ?_;refine ZY 5 ?_;first | refine S.miClose (b:=b) (m:=m.setUp z.toNat true) (mb:=mb) (tv:=tv) rfl rfl rfl (hok.setUp (by omega) _) hp htn ?_ | refine S.miClose (b:=b) (m:=m.setUp z.toNat false) (mb:=mb) (tv:=tv) rfl rfl rfl (hok.setUp (by omega) _) hp htn ?_
   exact Zf ef Zq (⟨by rw[hu];rfl,by rw[hu]⟩)
  ·subst h3;have hu:upR m z false=(0,m.setUp z.toNat false):=by simp[upR,hn]
   refine Zd ([blk b 124 (mxC m mb tv).toArray]) [9] (Zra 0 9) ?_;refine ZY 5 ?_;refine Zw ef (q_shlB (z.toNat) rfl rfl (by omega) (by omega)) ?_;refine Zw ef (q_andNotB (m.up) (BitVec.twoPow 16 z.toNat) rfl rfl (rfl) (rfl)) ?_;refine ZY 2 ?_;refine Z1 (i:=9) ef ef ?_;refine(S.store (cs':=[_,_,_,_,_]) Eo.h rfl rfl rfl rfl rfl ?_);refine ZL ([]) [] ?_;refine ZD ?_;refine ZY 5 ?_;first | refine S.miClose (b:=b) (m:=m.setUp z.toNat true) (mb:=mb) (tv:=tv) rfl rfl rfl (hok.setUp (by omega) _) hp htn ?_ | refine S.miClose (b:=b) (m:=m.setUp z.toNat false) (mb:=mb) (tv:=tv) rfl rfl rfl (hok.setUp (by omega) _) hp htn ?_
   exact Zf ef Zq (⟨by rw[hu];rfl,by rw[hu]⟩)
def isUpB (m:Mx) (z:Int):Bool:=nodeB m z&&m.up.getLsbD z.toNat
theorem IsUp_S (b:Nat) (m:Mx) (z:Int):Spec Tryz.prog 70 [.pointer (some ⟨b,0,none⟩),.int .i64 z] [MI b m] fun Γ v Θ=>v=.bool (isUpB m z)∧Θ=MI b m::Γ:=by
 refine Spec.miOk fun hok=>?_;refine Zbd Tryz.func70 rfl Tryz.ntmps70 fun w0 Γ=>Zsh ?_;have hN:=hok.N16;refine ZY 8 ?_;refine Zp (Zcp Ze (node_S b m z) ?_);refine Zy ?_
 refine Zbb 8 ef (fun hg1_3=>?_) (fun hg1_3=>?_)
 ·have hr:=nodeB_iff.1 hg1_3;refine S.miOpen b m fun mb tv l hok hp htn=>?_;refine ZY 5 ?_;refine Zg ef ef ef (Zcp Ze (has_S m.up z.toNat z (by omega) (by omega)) ?_);refine S.miClose (b:=b) (m:=m) (mb:=mb) (tv:=tv) rfl rfl rfl hok hp htn ?_;refine ZY 4 ?_;exact Zf ef Zq (⟨by simp only[resV,isUpB,hg1_3];rfl,rfl⟩)
 ·refine ZY 8 ?_;refine ZY 2 ?_;exact Zf ef Zq (⟨by simp only[resV,isUpB,hg1_3];rfl,rfl⟩)
theorem put_S (b:Nat) (m:Mx) (x:Jb) (hn:∀y∈m.js,y.id≠x.id) (h1:1≤x.id) (h2:x.id≤4294967295) (h3:x.row<m.R) (h4:x.ns≠0#16) (h5:∀i,x.ns.getLsbD i=true→i<m.N) (h6:tk m.js x.row &&& x.ns=0#16) :
  Spec Tryz.prog 148 [.pointer (some ⟨b,0,none⟩),.int .u32 (x.id:Int),jbV x] [MI b m] fun Γ _ Θ=>Θ=MI b (m.add x)::Γ:=by
 refine Zbd Tryz.func148 rfl Tryz.ntmps148 fun w0 Γ=>Zsh ?_;refine S.miOpen b m fun mb tv l hok hp htn=>?_;refine S.ownSome tv (by have:=hok.R1;omega) fun tb tf hta hl1 hl2 hl3=>?_;have hR8:=hok.R8;have hadd:=tk_addJ x m.js
 have hset:(tks m).set x.row (bsv (tk m.js x.row ||| x.ns))=tks (m.add x):=by
  have:=tks_set (m:=m) (m':=m.add x) (r:=x.row) rfl fun q _=>by
   show tk (addJ x m.js) q=_;rw[hadd]
   by_cases e:x.row=q
   ·subst e;rw[if_pos rfl,if_pos rfl];exact(hadd _).trans (if_pos rfl) |>.symm
   ·rw[if_neg e,if_neg e]
  rw[←this];show _=(tks m).set x.row (bsv (tk (addJ x m.js) x.row));rw[hadd,if_pos rfl]
 refine ZY 2 ?_;refine Zp (S.box (cs:=[_,_]) rfl rfl rfl ?_);intro b5;refine ZY 2 ?_;refine Zd ([blk b 124 (mxC m mb tv).toArray,blk b5 121 #[.int .i64 (x.row:Int),bsv x.ns],mapL mb .u32 l]) [6] (Zra 0 6) ?_;refine ZY 6 ?_;refine Z1 (i:=6) ef ef ?_;refine(S.mapUpdate Tryz.underlying117 Tryz.underlying31 rfl rfl rfl rfl ?_);refine ZL ([]) [] ?_;refine ZD ?_;refine Zd ([blk b 124 (mxC m mb tv).toArray,blk b5 121 #[.int .i64 (x.row:Int),bsv x.ns],own tv 119 1 (tks m)]) [12] (Zra 0 12) ?_;refine ZY 6 ?_;refine Zw ef (Zx (x.row) ef (hta) ef (by omega)) ?_;refine Zw ef (Zo (tv) (x.row) ef (hta) (tks_get h3)) ?_;refine ZY 2 ?_;refine Zw ef (q_orB (tk m.js x.row) (x.ns) rfl rfl (rfl) (rfl)) ?_;refine Zw ef (Zx (x.row) ef (hta) ef (by omega)) ?_;refine Z1 (i:=12) ef ef ?_;refine(S.storeOw (tv) (x.row) Eo.h rfl rfl rfl hta (by first | rfl | exact Nat.add_assoc _ _ _ | omega) (by rw[tks_len];omega) (hset) ?_);refine ZL ([]) [] ?_;refine ZD ?_;refine S.miClose (b:=b) (m:=m.add x) (mb:=mb) (tv:=tv) rfl rfl rfl (hok.add hn h1 h2 h3 h4 h5 h6) (put_perm hp hn) htn ?_;exact Zfn ef Zq (rfl)
def ofR (m:Mx) (j:Nat):Int×List Nat×Bool:=match look m.js j with
 | some x=>((x.row:Int),lst x.ns,true)
 | none=>(0,[],false)
theorem ofR_some {m:Mx} {j:Nat} {x:Jb} (h:look m.js j=some x):ofR m j=((x.row:Int),lst x.ns,true):=by simp only[ofR,h]
theorem ofR_none {m:Mx} {j:Nat} (h:look m.js j=none):ofR m j=(0,[],false):=by simp only[ofR,h]
theorem Of_S (b:Nat) (m:Mx) (j:Nat) {W:World} (hW:TabW W):Spec Tryz.prog 25 [.pointer (some ⟨b,0,none⟩),.int .u32 (j:Int)] [MI b m,old W] fun Γ v Θ=>∃sv:SV,v=.tuple #[.int .i64 (ofR m j).1,sv.v,.bool (ofR m j).2.2]∧sv.n=(ofR m j).2.1.length ∧
  Θ=own sv 3 1 (nds (ofR m j).2.1)::MI b m::old W::Γ:=by
 refine Zbd Tryz.func25 rfl Tryz.ntmps25 fun w0 Γ=>Zsh ?_;refine ZY 8 ?_;refine ZY 6 ?_;refine Zg ef ef ef (Zcp Ze (stands_S b m j) ?_);refine ZY 3 ?_
 refine Zi ef (fun h1=>?_) (fun h1=>?_)
 ·have hn:look m.js j=none:=by cases h:look m.js j with | none=>rfl | some x=>rw[h]at h1;cases h1
  refine ZY 7 ?_;rw[show S _ w0=S _ w0 from rfl];refine S.ent (Δ:=own SV.nil 3 1 (nds (ofR m j).2.1)::MI b m::old W::Γ) (by rw[ofR_none hn];exact Ent.ownNil _ _) ?_;exact Zf ef Zq (⟨SV.nil,by rw[ofR_none hn];rfl,by rw[ofR_none hn];rfl,rfl⟩)
 ·obtain⟨x,hx⟩:∃x,look m.js j=some x:=by cases h:look m.js j with | none=>rw[h]at h1;cases h1 | some x=>exact⟨x,rfl⟩
  refine S.miOpen b m fun mb tv l hok hp htn=>?_;have hg:=get_look hok.srt hp j;refine ZY 8 ?_;refine Zv (q_lookup1 (jbV x) Tryz.underlying117 Tryz.underlying31 Tryz.zv121.h rfl rfl rfl (by rw[hg,hx];rfl)) ?_;refine Zp (S.alloc Tryz.z121.h rfl ?_);intro b7;refine Zp (Zs ef ef (cs':=[_,_]) ef ?_);refine ZY 2 ?_;refine Zd ([blk b7 121 #[.int .i64 (x.row:Int),bsv x.ns],old W]) [4] [] ?_;refine ZP 0 [2,3] ef (q_field Eo.h rfl) ef ?_;refine ZY 2 ?_
  refine Z2 (i:=1) (j:=4) ef ef ef ?_ ?_
  ·refine(S.q (q_load Eo.h rfl rfl) rfl rfl ?_);refine Zk [] ?_;refine Z1 (i:=4) ef ef ?_;refine  (Zc1 Ze (list_S x.ns hW) ?_);rintro v Θ ⟨sv,rfl,hsv,rfl⟩;refine ZL ([blk b7 121 #[.int .i64 (x.row:Int),bsv x.ns]]) [5,6,7] ?_;refine ZY 3 ?_;refine ZD ?_;refine Zy ?_;refine S.miClose (b:=b) (m:=m) (mb:=mb) (tv:=tv) rfl rfl rfl hok hp htn ?_;exact Zf ef Zq (⟨sv,by rw[ofR_some hx];rfl,by rw[ofR_some hx];exact hsv,by rw[ofR_some hx]⟩)
  ·refine  (Zc1 Ze (list_S x.ns hW) ?_);rintro v Θ ⟨sv,rfl,hsv,rfl⟩;refine ZL ([blk b7 121 #[.int .i64 (x.row:Int),bsv x.ns]]) [1,5,6,7] ?_;refine ZY 4 ?_;refine ZD ?_;refine Zy ?_;refine S.miClose (b:=b) (m:=m) (mb:=mb) (tv:=tv) rfl rfl rfl hok hp htn ?_;exact Zf ef Zq (⟨sv,by rw[ofR_some hx];rfl,by rw[ofR_some hx];exact hsv,by rw[ofR_some hx]⟩)
def freeR (m:Mx) (z:Int):Nat:=if rowB m z then (lst (m.free z.toNat)).length else 0
theorem Free_S (b:Nat) (m:Mx) (z:Int):Spec Tryz.prog 149 [.pointer (some ⟨b,0,none⟩),.int .i64 z] [MI b m] fun Γ v Θ=>v=.int .i64 (freeR m z:Nat)∧Θ=MI b m::Γ:=by
 refine Zbd Tryz.func149 rfl Tryz.ntmps149 fun w0 Γ=>Zsh ?_;refine ZY 8 ?_;refine Zy ?_;refine Zp (Zcp Ze (row_S b m z) ?_);refine ZY 2 ?_
 refine Zi ef (fun h1=>?_) (fun h1=>?_)
 ·have hn:rowB m z=false:=by simpa using h1
  refine ZY 5 ?_;exact Zf ef Zq (⟨by simp only[resV,freeR,hn];rfl,rfl⟩)
 ·have hn:rowB m z=true:=by simpa using h1
  have hr:=rowB_iff.1 hn;refine S.miOpen b m fun mb tv l hok hp htn=>?_;refine S.ownSome tv (by omega) fun tb tf hta hl1 hl2 hl3=>?_;refine ZY 2 ?_;refine Zd ([blk b 124 (mxC m mb tv).toArray,own tv 119 1 (tks m)]) [12] (Zra 0 12) ?_;refine ZY 8 ?_;refine Zy ?_;refine Zw ef (Zx (z.toNat) ef (hta) ef (by omega) ((by omega))) ?_;refine Zw ef (Zo (tv) (z.toNat) ef (hta) (tks_get (show z.toNat<m.R by omega))) ?_;refine Zw ef (q_andNotB (m.up) (tk m.js z.toNat) rfl rfl (rfl) (rfl)) ?_;refine Z1 (i:=12) ef ef ?_;refine  (Zcp Ze (count_S (m.free z.toNat)) ?_);refine ZL ([]) [13] ?_;refine Zy ?_;refine ZD ?_;refine Zy ?_;refine S.miClose (b:=b) (m:=m) (mb:=mb) (tv:=tv) rfl rfl rfl hok hp htn ?_;exact Zf ef Zq (⟨by simp only[resV,freeR,hn];rfl,rfl⟩)
theorem Size_S (b:Nat) (m:Mx):Spec Tryz.prog 119 [.pointer (some ⟨b,0,none⟩)] [MI b m] fun Γ v Θ=>v=.tuple #[.int .i64 (m.R:Int),.int .i64 (m.N:Int)]∧Θ=MI b m::Γ:=by
 refine Zbd Tryz.func119 rfl Tryz.ntmps119 fun w0 Γ=>Zsh ?_;refine S.miOpen b m fun mb tv l hok hp htn=>?_;refine ZY 8 ?_;refine ZY 3 ?_;refine ZF ef ?_;refine ZY 2 ?_;refine Zd0 (Zra 0 10) ?_;refine ZY 8 ?_;refine ZY 2 ?_;refine ZD ?_;refine Zy ?_;refine S.miClose (b:=b) (m:=m) (mb:=mb) (tv:=tv) rfl rfl rfl hok hp htn ?_;exact Zf ef Zq (⟨rfl,rfl⟩)
def removeR (m:Mx) (j:Nat):Int×Mx:=if (look m.js j).isSome then (0,m.del j) else (6,m)
theorem removeR_none {m:Mx} {j:Nat} (h:look m.js j=none):removeR m j=(6,m):=by simp[removeR,h]
theorem removeR_some {m:Mx} {j:Nat} {x:Jb} (h:look m.js j=some x):removeR m j=(0,m.del j):=by simp[removeR,h]
theorem Remove_S (b:Nat) (m:Mx) (j:Nat):Spec Tryz.prog 94 [.pointer (some ⟨b,0,none⟩),.int .u32 (j:Int)] [MI b m] fun Γ v Θ=>v=.int .i64 (removeR m j).1∧Θ=MI b (removeR m j).2::Γ:=by
 refine Zbd Tryz.func94 rfl Tryz.ntmps94 fun w0 Γ=>Zsh ?_;refine ZY 8 ?_;refine ZY 4 ?_;refine Zg ef ef ef (Zcp Ze (stands_S b m j) ?_);refine ZY 3 ?_
 refine Zi ef (fun h1=>?_) (fun h1=>?_)
 ·have hn:look m.js j=none:=by cases h:look m.js j with | none=>rfl | some x=>rw[h]at h1;cases h1
  refine ZY 5 ?_;exact Zf ef Zq (⟨by rw[removeR_none hn];rfl,by rw[removeR_none hn]⟩)
 ·obtain⟨x,hx⟩:∃x,look m.js j=some x:=by cases h:look m.js j with | none=>rw[h]at h1;cases h1 | some x=>exact⟨x,rfl⟩
  refine S.miOpen b m fun mb tv l hok hp htn=>?_;have hg:=get_look hok.srt hp j;obtain⟨hxm,hxi⟩:=look_some hx;have hrow:=hok.row x hxm;have hR8:=hok.R8;refine S.ownSome tv (by omega) fun tb tf hta hl1 hl2 hl3=>?_
  have hset:(tks m).set x.row (bsv (tk m.js x.row &&& ~~~x.ns))=tks (m.del j):=by
   have hd:∀q,tk (m.del j).js q=if x.row=q then tk m.js q &&& ~~~x.ns else tk m.js q:=fun q=>by
    have:=tk_delJ hok hxm q;rw[hxi]at this;exact this
   have:=tks_set (m:=m) (m':=m.del j) (r:=x.row) rfl fun q _=>by
    by_cases e:x.row=q
    ·subst e;rw[if_pos rfl]
    ·rw[hd q,if_neg e,if_neg e]
   rw[←this,hd,if_pos rfl]
  refine ZY 8 ?_;refine Zv (q_lookup1 (jbV x) Tryz.underlying117 Tryz.underlying31 Tryz.zv121.h rfl rfl rfl (by rw[hg,hx];rfl)) ?_;refine Zp (S.alloc Tryz.z121.h rfl ?_);intro b5;refine Zp (Zs ef ef (cs':=[_,_]) ef ?_);refine ZY 2 ?_;refine Zd ([blk b 124 (mxC m mb tv).toArray,blk b5 121 #[.int .i64 (x.row:Int),bsv x.ns],own tv 119 1 (tks m)]) [12] (Zra 0 12) ?_;refine ZY 6 ?_;refine Zw ef (Zx (x.row) ef (hta) ef (by omega)) ?_;refine Zw ef (Zo (tv) (x.row) ef (hta) (tks_get hrow)) ?_;refine ZY 2 ?_;refine Zw ef (q_andNotB (tk m.js x.row) (x.ns) rfl rfl (rfl) (rfl)) ?_;refine Zw ef (Zx (x.row) ef (hta) ef (by omega)) ?_;refine Z1 (i:=12) ef ef ?_;refine(S.storeOw (tv) (x.row) Eo.h rfl rfl rfl hta (by first | rfl | exact Nat.add_assoc _ _ _ | omega) (by rw[tks_len];omega) (hset) ?_);refine ZL ([]) [] ?_;refine ZD ?_;refine ZY 7 ?_;refine Zp (S.mapDelete Tryz.underlying117 Tryz.underlying31 rfl rfl rfl ?_);refine ZY 6 ?_;refine S.miClose (b:=b) (m:=m.del j) (mb:=mb) (tv:=tv) rfl rfl rfl (hok.del j) (del_perm hok.srt hp j) htn ?_;exact Zf ef Zq (⟨by rw[removeR_some hx];rfl,by rw[removeR_some hx]⟩)
def nextUp (m:Mx) (z:Int):Nat→Option Nat
 | 0=>none
 | i+1=>match nextUp m z i with
  | some r=>some r
  | none=>if tk m.js ((z+1+i) % m.R).toNat=0#16 then none else some ((z+1+i) % m.R).toNat
def nextR (m:Mx) (z:Int):Int×Bool:=match nextUp m (if rowB m z then z else -1) m.R with
 | some r=>((r:Int),true)
 | none=>(0,false)
theorem nextUp_mono {m:Mx} {z:Int} {r:Nat}:∀ {k i:Nat},nextUp m z i=some r→i≤k→nextUp m z k=some r
 | 0,i,h,hk=>by rwa [show i=0 by omega]at h
 | k+1,i,h,hk=>by
  by_cases e:i=k+1
  ·rwa [e]at h
  ·rw[nextUp,nextUp_mono h (by omega)]
theorem Next_S (b:Nat) (m:Mx) (z:Int):Spec Tryz.prog 88 [.pointer (some ⟨b,0,none⟩),.int .i64 z] [MI b m] fun Γ v Θ=>v=.tuple #[.int .i64 (nextR m z).1,.bool (nextR m z).2]∧Θ=MI b m::Γ:=by
 refine Zbd Tryz.func88 rfl Tryz.ntmps88 fun w0 Γ=>Zsh ?_;obtain⟨z',hz'⟩:∃z',z'=if rowB m z then z else -1:=⟨_,rfl⟩
 refine ZY 8 ?_;refine ZY 3 ?_;refine ZF ef ?_;refine ZY 6 ?_;refine Zp (Zcp Ze (row_S b m z) ?_);refine ZY 2 ?_
 refine Zc (fun ρ' Γ'=>ρ'=[(0,.pointer (some ⟨b,0,none⟩)),(1,.int .i64 z')]∧Γ'=MI b m::Γ) ?_ ?_
 ·refine Zi ef (fun h2=>?_) (fun h2=>?_)
  ·have hn:rowB m z=false:=by simpa using h2
   rw[hn]at hz';refine ZY 3 ?_;first | (subst hz';exact S.meet ⟨rfl,rfl⟩ ⟨rfl,rfl,trivial⟩ Sub.ent)
  ·have hn:rowB m z=true:=by simpa using h2
   rw[hn]at hz';refine Zy ?_;first | (subst hz';exact S.meet ⟨rfl,rfl⟩ ⟨rfl,rfl,trivial⟩ Sub.ent)
 ·rintro ρ' Γ' ⟨rfl,rfl⟩;refine S.miOpen b m fun mb tv l hok hp htn=>?_;have hR8:=hok.R8;have hR1:=hok.R1
  have hz2:-1≤z'∧z' < m.R:=by
   rw[hz']
   by_cases h:rowB m z=true
   ·rw[if_pos h];have:=rowB_iff.1 h;omega
   ·rw[if_neg h];omega
  refine S.ownSome tv (by omega) fun tb tf hta hl1 hl2 hl3=>?_;refine ZY 8 ?_;refine ZY 2 ?_;refine Zl (fun k ρ' Γ'=>∃i:Nat,k=m.R-i∧i≤m.R∧nextUp m z' i=none∧ρ'=[(0,.pointer (some ⟨b,0,none⟩)),(1,.int .i64 z'),(17,.int .i64 m.R),(18,.int .i64 i)]∧Γ'=blk b 124 (mxC m mb tv).toArray::mapL mb .u32 l::own tv 119 1 (tks m)::Γ) (m:=_) (⟨0,rfl,by omega,rfl,rfl,rfl⟩) ?_;rintro k ρ' Γ' ⟨i,hik,hiR,hnu,rfl,rfl⟩;refine ZY 5 ?_
  refine Zj ef (fun h3=>?_) (fun h3=>?_)
  ·have hmod:(((z'+1+i) % m.R).toNat:Int)=(z'+1+i) % m.R:=Int.toNat_of_nonneg (Int.emod_nonneg _ (by omega));have hmlt:((z'+1+i) % m.R)<m.R:=Int.emod_lt_of_pos _ (by omega);refine ZY 8 ?_;refine ZY 3 ?_;refine Zv (Za ef ef) ?_;refine Zy ?_;refine Zv (q_add rfl rfl (inI64 (by omega) (by omega))) ?_;refine ZY 4 ?_;refine Zv (q_rem rfl rfl (⟨by omega,by omega⟩)) ?_;refine ZY 8 ?_;refine Zy ?_;refine Zv (Zx (((z'+1+i) % m.R).toNat) ef (hta) ef (by omega) (hmod.symm)) ?_;refine Zv (Zo (tv) (((z'+1+i) % m.R).toNat) ef (hta) (tks_get (show ((z'+1+i) % m.R).toNat<m.R by omega))) ?_;refine ZY 2 ?_
   refine Zj ef (fun h4=>?_) (fun h4=>?_)
   ·have hu:nextUp m z' (i+1)=some ((z'+1+i) % m.R).toNat:=by
     rw[nextUp,hnu];exact if_neg fun e=>h4 (bs_zero.2 e)
    have hfin:nextR m z=((z'+1+i) % m.R,true):=by
     unfold nextR;rw[←hz',nextUp_mono hu (show i+1≤m.R by omega)];exact congrArg (fun q:Int=>(q,true)) hmod
    refine ZY 7 ?_;refine S.miClose (b:=b) (m:=m) (mb:=mb) (tv:=tv) rfl rfl rfl hok hp htn ?_;exact Zf ef Zq (⟨by rw[hfin];rfl,rfl⟩)
   ·have hu:nextUp m z' (i+1)=none:=by
     rw[nextUp,hnu];exact if_pos (bs_zero.1 (Classical.byContradiction h4))
    refine ZY 2 ?_;refine Zv (Za ef ef) ?_;refine ZY 2 ?_;exact ZX (k-1) (⟨i+1,by omega,by omega,hu,rfl,rfl⟩) (by omega)
  ·have hfin:nextR m z=(0,false):=by
    rw[show i=m.R by omega]at hnu;unfold nextR;rw[←hz',hnu]
   refine ZY 7 ?_;refine S.miClose (b:=b) (m:=m) (mb:=mb) (tv:=tv) rfl rfl rfl hok hp htn ?_;exact Zf ef Zq (⟨by rw[hfin];rfl,rfl⟩)
def mx0 (R N:Nat):Mx:=⟨R,N,mask N,[]⟩
theorem mx0_ok {R N:Nat} (h1:1≤R) (h2:R≤8) (h3:1≤N) (h4:N≤16):MxOk (mx0 R N) where
 R1:=h1
 R8:=h2
 N1:=h3
 N16:=h4
 up:=fun i hi=>(mask_bit h4 i).1 hi
 srt:=List.Pairwise.nil
 id1:=fun _ h=>by cases h
 id2:=fun _ h=>by cases h
 row:=fun _ h=>by cases h
 some:=fun _ h=>by cases h
 ns:=fun _ h=>by cases h
 dis:=fun _ h=>by cases h
theorem zeroRow_mx0 (R N:Nat):zeroRow [Value.int .u16 0] R=tks (mx0 R N):=by
 have e:tks (mx0 R N)=List.replicate R (Value.int .u16 0):=by
  refine List.eq_replicate_iff.2 ⟨tks_len _,fun v hv=>?_⟩;obtain⟨r,_,rfl⟩:=List.mem_map.1 hv;rfl
 rw[e];induction R with
 | zero=>rfl
 | succ R ih=>rw[zeroRow,ih (by
   refine List.eq_replicate_iff.2 ⟨tks_len _,fun v hv=>?_⟩;obtain⟨r,_,rfl⟩:=List.mem_map.1 hv;rfl),List.replicate_succ];rfl
theorem New_S (R N:Nat) (hR1:1≤R) (hR8:R≤8) (hN1:1≤N) (hN16:N≤16):Spec Tryz.prog 35 [.int .i64 (R:Int),.int .i64 (N:Int)] [] fun Γ v Θ=>∃b,v=.tuple #[.pointer (some ⟨b,0,none⟩),.int .i64 0]∧Θ=MI b (mx0 R N)::Γ:=by
 refine Zbd Tryz.func35 rfl Tryz.ntmps35 fun w0 Γ=>Zsh ?_;refine ZY 8 ?_;refine ZY 3 ?_
 refine Zb 8 ef (fun hg1_2=>?_) (fun hg1_2=>?_)
 ·omega
 ·refine ZY 4 ?_
  refine Zb 12 ef (fun hg1_6=>?_) (fun hg1_6=>?_)
  ·omega
  ·refine ZY 4 ?_
   refine Zb 16 ef (fun hg1_10=>?_) (fun hg1_10=>?_)
   ·omega
   ·refine ZY 4 ?_
    refine Zj ef (fun h1=>?_) (fun h1=>?_)
    ·omega
    ·refine ZY 2 ?_;refine Zd ([]) [] [0,1,2,3,4,6] ?_;refine ZY 3 ?_;refine Zw ef (q_shlB (N) rfl rfl (rfl) (hN16)) ?_;refine Zw ef (q_predB (BitVec.twoPow 16 N) rfl rfl rfl) ?_;refine Zy ?_
     refine Z2 (i:=5) (j:=7) ef ef ef ?_ ?_
     ·refine(S.makeMap .u32 rfl ?_);intro b25;refine Zk [] ?_;refine Z1 (i:=7) ef ef ?_;refine(S.makeSlice (R) (R) Tryz.underlying122 Tryz.inf119.h rfl rfl rfl rfl rfl (Nat.le_refl _) (by omega) rfl ?_);intro tv htv;refine Zk [8] ?_;refine Zw ef (q_build (pvs:=[(_,_),(_,_),(_,_),(_,_),(_,_)]) [_,_,_,_,_] Tryz.z124.h Tryz.p124.h ⟨⟨rfl,rfl⟩,⟨rfl,rfl⟩,⟨rfl,rfl⟩,⟨rfl,rfl⟩,⟨rfl,rfl⟩,trivial⟩ rfl) ?_;refine Z1 (i:=9) ef ef ?_;refine(S.box (cs:=[_,_,_,_,_]) rfl rfl rfl ?_);intro b29;refine Zk [10,11] ?_;refine ZY 2 ?_;refine ZD ?_;refine Zy ?_;refine S.miClose (b:=b29) (m:=mx0 R N) (mb:=b25) (tv:=tv) (by rw[twoPow_pred N hN16];rfl) rfl (by rw[zeroRow_mx0 R N]) (mx0_ok hR1 hR8 hN1 hN16) (.refl _) htv ?_;exact Zf ef Zq (⟨b29,rfl,rfl⟩)
     ·refine(S.makeSlice (R) (R) Tryz.underlying122 Tryz.inf119.h rfl rfl rfl rfl rfl (Nat.le_refl _) (by omega) rfl ?_);intro tv htv;refine Zk [] ?_;refine Z1 (i:=5) ef ef ?_;refine(S.makeMap .u32 rfl ?_);intro b25;refine Zk [8] ?_;refine Zw ef (q_build (pvs:=[(_,_),(_,_),(_,_),(_,_),(_,_)]) [_,_,_,_,_] Tryz.z124.h Tryz.p124.h ⟨⟨rfl,rfl⟩,⟨rfl,rfl⟩,⟨rfl,rfl⟩,⟨rfl,rfl⟩,⟨rfl,rfl⟩,trivial⟩ rfl) ?_;refine Z1 (i:=9) ef ef ?_;refine(S.box (cs:=[_,_,_,_,_]) rfl rfl rfl ?_);intro b29;refine Zk [10,11] ?_;refine ZY 2 ?_;refine ZD ?_;refine Zy ?_;refine S.miClose (b:=b29) (m:=mx0 R N) (mb:=b25) (tv:=tv) (by rw[twoPow_pred N hN16];rfl) rfl (by rw[zeroRow_mx0 R N]) (mx0_ok hR1 hR8 hN1 hN16) (.refl _) htv ?_;exact Zf ef Zq (⟨b29,rfl,rfl⟩)
def okUp (m:Mx) (l:List Int):Nat→Bool
 | 0=>true
 | i+1=>okUp m l i&&nodeB m (l.getD i 0)&&(decide (i=0) || decide (l.getD (i-1) 0<l.getD i 0))
abbrev nats (l:List Int):List Nat:=l.map Int.toNat
theorem okUp_le {m:Mx} {l:List Int}:∀ {k i:Nat},okUp m l k=true→i≤k→okUp m l i=true
 | 0,i,h,hi=>by rwa [show i=0 by omega]
 | k+1,i,h,hi=>by
  by_cases e:i=k+1
  ·rwa [e]
  ·rw[okUp,Bool.and_eq_true,Bool.and_eq_true]at h;exact okUp_le h.1.1 (by omega)
theorem okUp_at {m:Mx} {l:List Int} {k i:Nat} (h:okUp m l k=true) (hi:i<k):nodeB m (l.getD i 0)=true∧(0<i→l.getD (i-1) 0<l.getD i 0):=by
 have:=okUp_le h (show i+1≤k by omega);rw[okUp,Bool.and_eq_true,Bool.and_eq_true,Bool.or_eq_true,decide_eq_true_eq,decide_eq_true_eq]at this;exact⟨this.1.2,fun h0=>this.2.resolve_left (by omega)⟩
theorem okUp_rise {m:Mx} {l:List Int} (h:okUp m l l.length=true):(nats l).Pairwise (· < ·)∧∀i∈nats l,i<m.N:=by
 have hmono:∀d i,i+d<l.length→l.getD i 0≤l.getD (i+d) 0∧(0<d→l.getD i 0<l.getD (i+d) 0):=by
  intro d;induction d with
  | zero=>intro i _;exact⟨Int.le_refl _,fun h=>by omega⟩
  | succ d ih=>
   intro i hi;have h1:=ih i (by omega);have h2:=(okUp_at h (i:=i+d+1) (by omega)).2 (by omega);rw[show i+d+1-1=i+d by omega]at h2;show l.getD i 0≤l.getD (i+d+1) 0∧(0<d+1→l.getD i 0<l.getD (i+d+1) 0);exact⟨by omega,fun _=>by omega⟩
 constructor
 ·refine List.pairwise_iff_getElem.2 fun i j hi hj hij=>?_;simp only[List.length_map]at hi hj;have h1:=(hmono (j-i) i (by omega)).2 (by omega);rw[show i+(j-i)=j by omega]at h1;have h2:=nodeB_iff.1 (okUp_at h (i:=i) hi).1;have h3:=nodeB_iff.1 (okUp_at h (i:=j) hj).1;simp only[List.getElem_map];simp only[List.getD,List.getElem?_eq_getElem hi,List.getElem?_eq_getElem hj,Option.getD_some]at h1 h2 h3;omega
 ·intro i hi;obtain⟨z,hz,rfl⟩:=List.mem_map.1 hi;obtain⟨q,hq,e⟩:=List.getElem_of_mem hz;have h2:=nodeB_iff.1 (okUp_at h (i:=q) hq).1;simp only[List.getD,List.getElem?_eq_getElem hq,Option.getD_some,e]at h2;omega
def putOk (m:Mx) (j:Nat) (z:Int) (l:List Int):Bool:=decide ((j:Int)≠0)&&rowB m z&&decide ((l.length:Int) > 0)
def putR (m:Mx) (j:Nat) (z:Int) (l:List Int):Int×Mx:=
 if (putOk m j z l&&okUp m l l.length)=false then (1,m)
 else if (look m.js j).isSome then (7,m)
 else if tk m.js z.toNat &&& ofL (nats l)≠0#16 then (15,m)
 else (0,m.add ⟨j,z.toNat,ofL (nats l)⟩)
theorem put_ok {m:Mx} (hm:MxOk m) {l:List Int} (h0:0<l.length) (h:okUp m l l.length=true):lst (ofL (nats l))=nats l∧ofL (nats l)≠0#16∧∀i,(ofL (nats l)).getLsbD i=true→i<m.N:=by
 obtain⟨h1,h2⟩:=okUp_rise h;have e:lst (ofL (nats l))=nats l:=lst_ofL h1 fun i hi=>by have:=h2 i hi;have:=hm.N16;omega
 refine⟨e,fun e2=>?_,fun i hi=>h2 i (by rw[←e];exact mem_lst.2 hi)⟩;rw[e2,lst_zero]at e;have:=congrArg List.length e;simp at this;omega
theorem putR_ok {m:Mx} (hm:MxOk m) {j:Nat} (hj:j≤4294967295) (z:Int) (l:List Int):MxOk (putR m j z l).2:=by
 unfold putR
 by_cases h1:(putOk m j z l&&okUp m l l.length)=false
 ·rw[if_pos h1];exact hm
 rw[if_neg h1];have h1:(putOk m j z l&&okUp m l l.length)=true:=by simpa using h1
 rw[Bool.and_eq_true,putOk,Bool.and_eq_true,Bool.and_eq_true,decide_eq_true_eq,decide_eq_true_eq]at h1;obtain⟨⟨⟨q1,q2⟩,q3⟩,q4⟩:=h1;cases h2:look m.js j with
 | some x=>exact hm
 | none=>
  simp only[Option.isSome_none,Bool.false_eq_true,if_false]
  by_cases h3:tk m.js z.toNat &&& ofL (nats l)≠0#16
  ·rw[if_pos h3];exact hm
  rw[if_neg h3];obtain⟨p1,p2,p3⟩:=put_ok hm (by omega) q4;have hr:=rowB_iff.1 q2;exact hm.add (look_none h2) (by show 1≤j;omega) hj (by show z.toNat<m.R;omega) p2 p3 (Classical.byContradiction h3)
theorem Put_S (b:Nat) (m:Mx) (j:Nat) (z:Int) (R:Assn) (s:SV) (l:List Int) (hsn:s.n=l.length) (hR:RdS R s s.n 1 (ints l)) (hj:j≤4294967295):Spec Tryz.prog 116 [.pointer (some ⟨b,0,none⟩),.int .u32 (j:Int),.int .i64 z,s.v] [MI b m,R] fun Γ v Θ=>
  v=.int .i64 (putR m j z l).1∧Θ=MI b (putR m j z l).2::R::Γ:=by
 refine Spec.miOk fun hok=>?_;refine Zbd Tryz.func116 rfl Tryz.ntmps116 fun w0 Γ=>Zsh ?_;refine S.rCap hR fun _ hcap1 hcap2=>?_;have hN16:=hok.N16;refine ZY 8 ?_;refine ZY 2 ?_;refine ZF ef ?_;refine ZY 2 ?_
 refine Zc (fun ρ' Γ'=>∃b9,ρ'=[(0,.pointer (some ⟨b,0,none⟩)),(1,.int .u32 (j:Int)),(2,.int .i64 z),(3,s.v),(9,.pointer (some ⟨b9,0,none⟩)),(10,.bool (putOk m j z l))]∧Γ'=blk b9 121 #[.int .i64 z,.int .u16 0]::MI b m::R::Γ) ?_ ?_
 ·refine ZY 2 ?_;refine Zv (q_build (pvs:=[(_,_)]) [_,_] Tryz.z121.h Tryz.p121.h ⟨⟨rfl,rfl⟩,trivial⟩ rfl) ?_;refine ZY 3 ?_
  refine Zb 19 ef (fun hg3_4=>?_) (fun hg3_4=>?_)
  ·refine ZY 2 ?_;refine Zg ef ef ef (Zcp Ze (row_S b m z) ?_);refine ZY 2 ?_
   refine Zbb 24 ef (fun hg3_9=>?_) (fun hg3_9=>?_)
   ·refine ZY 4 ?_;refine Zp (S.alloc Tryz.z121.h rfl ?_);intro b9;refine Zp (Zs ef ef (cs':=[_,_]) ef ?_);refine ZY 2 ?_;have hpk:putOk m j z l=(decide ((j:Int)≠0)&&rowB m z&&decide ((s.n:Int) > 0)):=by rw[putOk,hsn]
    first | (have e:putOk m j z l=decide ((0:Int)<s.n):=(by rw[hpk,decide_eq_true hg3_4,hg3_9];rfl) ;rw[e] ;exact S.meet ⟨b9,rfl,rfl⟩ ⟨rfl,rfl,rfl,rfl,rfl,rfl,trivial⟩ Sub.ent) | (have e:putOk m j z l=false:=(by rw[hpk,hg3_9];simp) ;rw[e] ;exact S.meet ⟨b9,rfl,rfl⟩ ⟨rfl,rfl,rfl,rfl,rfl,rfl,trivial⟩ Sub.ent) | (have e:putOk m j z l=false:=(by rw[hpk,decide_eq_false hg3_4];rfl) ;rw[e] ;exact S.meet ⟨b9,rfl,rfl⟩ ⟨rfl,rfl,rfl,rfl,rfl,rfl,trivial⟩ Sub.ent)
   ·refine ZY 4 ?_;refine Zp (S.alloc Tryz.z121.h rfl ?_);intro b9;refine Zp (Zs ef ef (cs':=[_,_]) ef ?_);refine ZY 2 ?_;have hpk:putOk m j z l=(decide ((j:Int)≠0)&&rowB m z&&decide ((s.n:Int) > 0)):=by rw[putOk,hsn]
    first | (have e:putOk m j z l=decide ((0:Int)<s.n):=(by rw[hpk,decide_eq_true hg3_4,hg3_9];rfl) ;rw[e] ;exact S.meet ⟨b9,rfl,rfl⟩ ⟨rfl,rfl,rfl,rfl,rfl,rfl,trivial⟩ Sub.ent) | (have e:putOk m j z l=false:=(by rw[hpk,hg3_9];simp) ;rw[e] ;exact S.meet ⟨b9,rfl,rfl⟩ ⟨rfl,rfl,rfl,rfl,rfl,rfl,trivial⟩ Sub.ent) | (have e:putOk m j z l=false:=(by rw[hpk,decide_eq_false hg3_4];rfl) ;rw[e] ;exact S.meet ⟨b9,rfl,rfl⟩ ⟨rfl,rfl,rfl,rfl,rfl,rfl,trivial⟩ Sub.ent)
  ·refine ZY 8 ?_;refine Zy ?_;refine Zp (S.alloc Tryz.z121.h rfl ?_);intro b9;refine Zp (Zs ef ef (cs':=[_,_]) ef ?_);refine ZY 2 ?_;have hpk:putOk m j z l=(decide ((j:Int)≠0)&&rowB m z&&decide ((s.n:Int) > 0)):=by rw[putOk,hsn]
   first | (have e:putOk m j z l=decide ((0:Int)<s.n):=(by rw[hpk,decide_eq_true hg3_4,hg3_9];rfl) ;rw[e] ;exact S.meet ⟨b9,rfl,rfl⟩ ⟨rfl,rfl,rfl,rfl,rfl,rfl,trivial⟩ Sub.ent) | (have e:putOk m j z l=false:=(by rw[hpk,hg3_9];simp) ;rw[e] ;exact S.meet ⟨b9,rfl,rfl⟩ ⟨rfl,rfl,rfl,rfl,rfl,rfl,trivial⟩ Sub.ent) | (have e:putOk m j z l=false:=(by rw[hpk,decide_eq_false hg3_4];rfl) ;rw[e] ;exact S.meet ⟨b9,rfl,rfl⟩ ⟨rfl,rfl,rfl,rfl,rfl,rfl,trivial⟩ Sub.ent)
 ·rintro ρ' Γ' ⟨b9,rfl,rfl⟩;show S _ w0 _ (blk b9 121 #[.int .i64 z,bsv 0#16]::MI b m::R::Γ) _;refine ZY 8 ?_;refine Zl (fun q ρ' Γ'=>∃(i:Nat) (bs:Bs) (rt:Bool),q=l.length-i∧i≤l.length∧rt=(putOk m j z l&&okUp m l i)∧(rt=true→bs=ofL (nats (l.take i)))∧ρ'=[(0,.pointer (some ⟨b,0,none⟩)),(1,.int .u32 (j:Int)),(2,.int .i64 z),(3,s.v),(9,.pointer (some ⟨b9,0,none⟩)),(10,.bool rt),(29,s.v),(30,.int .i64 s.n),(31,.int .i64 i)]∧Γ'=blk b9 121 #[.int .i64 z,bsv bs]::MI b m::R::Γ) (m:=_) (⟨0,0#16,putOk m j z l,rfl,by omega,(Bool.and_true _).symm,fun _=>rfl,rfl,rfl⟩) ?_;rintro q ρ' Γ' ⟨i,bs,rt,hiq,hil,hrt,hbs,rfl,rfl⟩;refine ZY 5 ?_
  refine Zj ef (fun h2=>?_) (fun h2=>?_)
  ·refine S.rSome hR (by omega) fun sb so hsa=>?_;obtain⟨x,hx⟩:=getE (show i<l.length by omega);have hxd:l.getD i 0=x:=by simp[List.getD,hx]
   refine ZY 6 ?_;refine Zv (Zx (i) ef (hsa) ef (by omega)) ?_;refine Zv (q_loadR hR i Eo.h rfl hsa (by omega) (by omega) (ints_get hx)) ?_;refine ZY 4 ?_
   refine Zc (fun ρ' Γ'=>∃r2,r2=(putOk m j z l&&okUp m l (i+1))∧ρ'=[(0,.pointer (some ⟨b,0,none⟩)),(1,.int .u32 (j:Int)),(2,.int .i64 z),(3,s.v),(9,.pointer (some ⟨b9,0,none⟩)),(10,.bool r2),(12,.int .i64 x),(29,s.v),(30,.int .i64 s.n),(31,.int .i64 i)]∧Γ'=blk b9 121 #[.int .i64 z,bsv bs]::MI b m::R::Γ) ?_ ?_
   ·refine ZY 3 ?_
    refine Zbb 37 ef (fun hg7_1=>?_) (fun hg7_1=>?_)
    ·refine ZY 2 ?_;refine Zg ef ef ef (Zcp Ze (node_S b m x) ?_);refine ZY 2 ?_
     refine Zbb 42 ef (fun hg7_6=>?_) (fun hg7_6=>?_)
     ·refine ZY 3 ?_
      refine Zb 45 ef (fun hg7_9=>?_) (fun hg7_9=>?_)
      ·refine ZY 8 ?_;refine ZY 3 ?_
       have hok1:(putOk m j z l&&okUp m l (i+1))=(putOk m j z l&&okUp m l i&&nodeB m x&&(decide ((i:Int)=0) || decide (l.getD (i-1) 0<x))):=by
        rw[okUp,hxd,←Bool.and_assoc,←Bool.and_assoc];have e:decide (i=0)=decide ((i:Int)=0):=decide_eq_decide.2 (by omega);rw[e]
       first | exact S.meet ⟨_,(by rw[hok1,←hrt,hg7_1,hg7_6,decide_eq_true hg7_9];rfl),rfl,rfl⟩ ⟨rfl,rfl,rfl,rfl,rfl,rfl,rfl,rfl,rfl,rfl,trivial⟩ Sub.ent | exact S.meet ⟨_,(by rw[hok1,←hrt,hg7_1,hg7_6,decide_eq_false hg7_9,hyd];rfl),rfl,rfl⟩ ⟨rfl,rfl,rfl,rfl,rfl,rfl,rfl,rfl,rfl,rfl,trivial⟩ Sub.ent | exact S.meet ⟨_,(by rw[hok1,←hrt,hg7_1,hg7_6];rfl),rfl,rfl⟩ ⟨rfl,rfl,rfl,rfl,rfl,rfl,rfl,rfl,rfl,rfl,trivial⟩ Sub.ent | exact S.meet ⟨_,(by rw[hok1,←hrt,hg7_1];rfl),rfl,rfl⟩ ⟨rfl,rfl,rfl,rfl,rfl,rfl,rfl,rfl,rfl,rfl,trivial⟩ Sub.ent
      ·obtain⟨y,hy⟩:=getE (show i-1<l.length by omega);have hyd:l.getD (i-1) 0=y:=by simp[List.getD,hy]
       refine ZY 3 ?_;refine Zvg ef ef ef (Zm ef ef) ?_;refine Zvg ef ef ef (Zx (i-1) ef (hsa) ef (by omega) ((by omega))) ?_;refine Zvg ef ef ef (q_loadR hR (i-1) Eo.h rfl hsa (by omega) (by omega) (ints_get hy)) ?_;refine ZY 5 ?_
       have hok1:(putOk m j z l&&okUp m l (i+1))=(putOk m j z l&&okUp m l i&&nodeB m x&&(decide ((i:Int)=0) || decide (l.getD (i-1) 0<x))):=by
        rw[okUp,hxd,←Bool.and_assoc,←Bool.and_assoc];have e:decide (i=0)=decide ((i:Int)=0):=decide_eq_decide.2 (by omega);rw[e]
       first | exact S.meet ⟨_,(by rw[hok1,←hrt,hg7_1,hg7_6,decide_eq_true hg7_9];rfl),rfl,rfl⟩ ⟨rfl,rfl,rfl,rfl,rfl,rfl,rfl,rfl,rfl,rfl,trivial⟩ Sub.ent | exact S.meet ⟨_,(by rw[hok1,←hrt,hg7_1,hg7_6,decide_eq_false hg7_9,hyd];rfl),rfl,rfl⟩ ⟨rfl,rfl,rfl,rfl,rfl,rfl,rfl,rfl,rfl,rfl,trivial⟩ Sub.ent | exact S.meet ⟨_,(by rw[hok1,←hrt,hg7_1,hg7_6];rfl),rfl,rfl⟩ ⟨rfl,rfl,rfl,rfl,rfl,rfl,rfl,rfl,rfl,rfl,trivial⟩ Sub.ent | exact S.meet ⟨_,(by rw[hok1,←hrt,hg7_1];rfl),rfl,rfl⟩ ⟨rfl,rfl,rfl,rfl,rfl,rfl,rfl,rfl,rfl,rfl,trivial⟩ Sub.ent
     ·refine ZY 8 ?_;refine ZY 6 ?_
      have hok1:(putOk m j z l&&okUp m l (i+1))=(putOk m j z l&&okUp m l i&&nodeB m x&&(decide ((i:Int)=0) || decide (l.getD (i-1) 0<x))):=by
       rw[okUp,hxd,←Bool.and_assoc,←Bool.and_assoc];have e:decide (i=0)=decide ((i:Int)=0):=decide_eq_decide.2 (by omega);rw[e]
      first | exact S.meet ⟨_,(by rw[hok1,←hrt,hg7_1,hg7_6,decide_eq_true hg7_9];rfl),rfl,rfl⟩ ⟨rfl,rfl,rfl,rfl,rfl,rfl,rfl,rfl,rfl,rfl,trivial⟩ Sub.ent | exact S.meet ⟨_,(by rw[hok1,←hrt,hg7_1,hg7_6,decide_eq_false hg7_9,hyd];rfl),rfl,rfl⟩ ⟨rfl,rfl,rfl,rfl,rfl,rfl,rfl,rfl,rfl,rfl,trivial⟩ Sub.ent | exact S.meet ⟨_,(by rw[hok1,←hrt,hg7_1,hg7_6];rfl),rfl,rfl⟩ ⟨rfl,rfl,rfl,rfl,rfl,rfl,rfl,rfl,rfl,rfl,trivial⟩ Sub.ent | exact S.meet ⟨_,(by rw[hok1,←hrt,hg7_1];rfl),rfl,rfl⟩ ⟨rfl,rfl,rfl,rfl,rfl,rfl,rfl,rfl,rfl,rfl,trivial⟩ Sub.ent
    ·refine ZY 8 ?_;refine ZY 8 ?_;refine ZY 3 ?_
     have hok1:(putOk m j z l&&okUp m l (i+1))=(putOk m j z l&&okUp m l i&&nodeB m x&&(decide ((i:Int)=0) || decide (l.getD (i-1) 0<x))):=by
      rw[okUp,hxd,←Bool.and_assoc,←Bool.and_assoc];have e:decide (i=0)=decide ((i:Int)=0):=decide_eq_decide.2 (by omega);rw[e]
     first | exact S.meet ⟨_,(by rw[hok1,←hrt,hg7_1,hg7_6,decide_eq_true hg7_9];rfl),rfl,rfl⟩ ⟨rfl,rfl,rfl,rfl,rfl,rfl,rfl,rfl,rfl,rfl,trivial⟩ Sub.ent | exact S.meet ⟨_,(by rw[hok1,←hrt,hg7_1,hg7_6,decide_eq_false hg7_9,hyd];rfl),rfl,rfl⟩ ⟨rfl,rfl,rfl,rfl,rfl,rfl,rfl,rfl,rfl,rfl,trivial⟩ Sub.ent | exact S.meet ⟨_,(by rw[hok1,←hrt,hg7_1,hg7_6];rfl),rfl,rfl⟩ ⟨rfl,rfl,rfl,rfl,rfl,rfl,rfl,rfl,rfl,rfl,trivial⟩ Sub.ent | exact S.meet ⟨_,(by rw[hok1,←hrt,hg7_1];rfl),rfl,rfl⟩ ⟨rfl,rfl,rfl,rfl,rfl,rfl,rfl,rfl,rfl,rfl,trivial⟩ Sub.ent
   ·rintro ρ' Γ' ⟨r2,hr2,rfl,rfl⟩;refine ZY 4 ?_
    refine Zi ef (fun h3=>?_) (fun h3=>?_)
    ·subst h3;have h3:=hr2.symm;rw[Bool.and_eq_true]at h3;have hnb:=nodeB_iff.1 (okUp_at h3.2 (show i<i+1 by omega)).1;rw[hxd]at hnb;have hbs2:=hbs (by rw[hrt,h3.1,okUp_le h3.2 (show i≤i+1 by omega)];rfl);refine Zd ([blk b9 121 #[.int .i64 z,bsv bs]]) [6] (Zra 0 6) ?_;refine ZY 3 ?_;refine Zw ef (q_shlB (x.toNat) rfl rfl (by omega) (by omega)) ?_;refine Zw ef (q_orB (bs) (BitVec.twoPow 16 x.toNat) rfl rfl (rfl) (rfl)) ?_;refine Zy ?_;refine Z1 (i:=6) ef ef ?_;refine(S.store (cs':=[_,_]) Eo.h rfl rfl rfl rfl rfl ?_);refine ZL ([]) [] ?_;refine ZD ?_;refine Zy ?_;refine Zv (Za ef ef) ?_;refine ZY 2 ?_;first | (have hnew:bs ||| BitVec.twoPow 16 x.toNat=ofL (nats (l.take (i+1))):=(by rw[List.take_add_one,hx,hbs2];simp only[Option.toList_some,List.map_append,ofL_append];simp[ofL]) ;exact ZX (q-1) ⟨i+1,bs ||| BitVec.twoPow 16 x.toNat,true,by omega,by omega,hr2,fun _=>hnew,rfl,rfl⟩ (by omega)) | exact ZX (q-1) ⟨i+1,bs,r2,by omega,by omega,hr2,fun h=>(by rw[h3]at h;cases h),rfl,rfl⟩ (by omega)
    ·refine ZY 2 ?_;refine Zv (Za ef ef) ?_;refine ZY 2 ?_;first | (have hnew:bs ||| BitVec.twoPow 16 x.toNat=ofL (nats (l.take (i+1))):=(by rw[List.take_add_one,hx,hbs2];simp only[Option.toList_some,List.map_append,ofL_append];simp[ofL]) ;exact ZX (q-1) ⟨i+1,bs ||| BitVec.twoPow 16 x.toNat,true,by omega,by omega,hr2,fun _=>hnew,rfl,rfl⟩ (by omega)) | exact ZX (q-1) ⟨i+1,bs,r2,by omega,by omega,hr2,fun h=>(by rw[h3]at h;cases h),rfl,rfl⟩ (by omega)
  ·have hie:i=l.length:=by omega
   subst hie;refine ZY 8 ?_;refine Zy ?_
   refine Zi ef (fun h4=>?_) (fun h4=>?_)
   ·have hp:putR m j z l=(1,m):=by rw[putR,←hrt,if_pos (by simpa using h4)]
    refine ZY 5 ?_;exact Zf ef Zq (⟨by rw[hp];rfl,by rw[hp]⟩)
   ·have hpt:(putOk m j z l&&okUp m l l.length)=true:=by rw[←hrt];simpa using h4
    have hbs2:=hbs (by simpa using h4);have hpt':=hpt;rw[List.take_length]at hbs2;rw[Bool.and_eq_true,putOk,Bool.and_eq_true,Bool.and_eq_true,decide_eq_true_eq,decide_eq_true_eq]at hpt;obtain⟨⟨⟨q1,q2⟩,q3⟩,q4⟩:=hpt;have hr:=rowB_iff.1 q2;obtain⟨r,rfl⟩:∃r:Nat,z=r:=⟨z.toNat,by omega⟩;obtain⟨p1,p2,p3⟩:=put_ok hok (show 0<l.length by omega) q4;rw[←hbs2]at p1 p2 p3
    have hpn:putR m j r l=if (look m.js j).isSome then (7,m) else if tk m.js r &&& bs≠0#16 then (15,m) else (0,m.add ⟨j,r,bs⟩):=by
     rw[putR,hpt',if_neg (by decide),←hbs2,Int.toNat_natCast]
    refine ZY 4 ?_;refine Zp (Zcp Ze (stands_S b m j) ?_);refine ZY 2 ?_
    refine Zi ef (fun h5=>?_) (fun h5=>?_)
    ·rw[if_pos h5]at hpn;refine ZY 5 ?_;exact Zf ef Zq (⟨by rw[hpn];rfl,by rw[hpn]⟩)
    ·rw[if_neg (by rw[h5];decide)]at hpn;have hlk:look m.js j=none:=by cases h:look m.js j with | none=>rfl | some x=>rw[h]at h5;cases h5
     refine S.miOpen b m fun mb tv lm hok2 hpm htn=>?_;have hR8:=hok.R8;refine S.ownSome tv (by omega) fun tb tf hta hl1 hl2 hl3=>?_;refine Zy ?_;refine Zd0 (Zra 0 12) ?_;refine ZY 5 ?_;refine Zw ef (Zx (r) ef (hta) ef (by omega)) ?_;refine Zw ef (Zo (tv) (r) ef (hta) (tks_get (show r<m.R by omega))) ?_;refine ZY 2 ?_;refine Zw ef (q_andB (tk m.js r) (bs) rfl rfl (rfl) (rfl)) ?_;refine ZY 2 ?_;refine ZD ?_
     refine Zj ef (fun h6=>?_) (fun h6=>?_)
     ·rw[if_pos (fun e=>h6 (bs_zero.2 e))]at hpn;refine ZY 5 ?_;refine S.miClose (b:=b) (m:=m) (mb:=mb) (tv:=tv) rfl rfl rfl hok2 hpm htn ?_;exact Zf ef Zq (⟨by rw[hpn];rfl,by rw[hpn]⟩)
     ·have hz0:tk m.js r &&& bs=0#16:=bs_zero.1 (Classical.byContradiction h6);rw[if_neg (fun h=>h hz0)]at hpn;refine S.miClose (b:=b) (m:=m) (mb:=mb) (tv:=tv) rfl rfl rfl hok2 hpm htn ?_;refine ZY 6 ?_;refine Zp (Zc1 Ze (put_S b m ⟨j,r,bs⟩ (look_none hlk) (show 1≤j by omega) hj (show r<m.R by omega) p2 p3 hz0) ?_);rintro v Θ rfl;refine ZY 6 ?_;exact Zf ef Zq (⟨by rw[hpn];rfl,by rw[hpn]⟩)
open Go.Sort (SWO putCells putRow mapBlock grow onCells flatK HoldsK putRowK)
theorem world_grow {w w':World} (h1:Below w.heap.size w w') (h2:w.drawn≤w'.drawn):∃q os',w'=Sort.grow (w.drewN q) os':=by
 refine⟨w'.drawn-w.drawn,w'.heap.extract w.heap.size w'.heap.size,?_⟩
 have hh:w'.heap=w.heap++w'.heap.extract w.heap.size w'.heap.size:=by
  apply Array.ext_getElem?;intro i
  by_cases hi:i<w.heap.size
  ·rw[Array.getElem?_append_left hi];exact h1.block i hi
  ·rw[Array.getElem?_append_right (by omega),Array.getElem?_extract];have:=h1.size
   by_cases hi2:i<w'.heap.size
   ·rw[if_pos (by omega)]
    congr 1
    omega
   ·rw[if_neg (by omega),Array.getElem?_eq_none (by omega)]
 have e1:=h1.os;have e2:=h1.tape;have e3:=h1.output;obtain⟨hp,tp,dr,os,out⟩:=w;obtain⟨hp',tp',dr',os',out'⟩:=w';simp only at e1 e2 e3 h2 hh;subst e1 e2 e3;simp only[Sort.grow,World.drewN,World.mk.injEq,true_and,and_true];exact⟨hh,by omega⟩
theorem flatK_list {α:Type} [Inhabited α] {enc:α→List Value} {k:Nat} (hk:∀x,(enc x).length=k) (h0:0<k) (d:Array α):(flatK enc k d).toList=d.toList.flatMap enc:=by
 refine List.ext_getElem? fun j=>?_
 by_cases hj:j<d.size*k
 ·have hd:j / k<d.size:=Nat.div_lt_of_lt_mul (by rw[Nat.mul_comm];exact hj);have hm:j % k<k:=Nat.mod_lt _ h0
  have h1:d.toList[j / k]?=some d[j / k]! := by
   rw[getElem!_pos d _ hd,Array.getElem?_toList];exact Array.getElem?_eq_getElem hd
  have h2:(enc d[j / k]!)[j % k]?=some (enc d[j / k]!)[j % k]! := by
   rw[getElem!_pos (enc d[j / k]!) (j % k) (by rw[hk];exact hm)];exact List.getElem?_eq_getElem _
  have h3:=flat_get hk h1 h2;rw[Nat.mul_comm,Nat.div_add_mod]at h3;rw[h3,Array.getElem?_toList];have h4:=Go.Sort.get_flatK enc k d j hj;rw[←h4,getElem!_pos _ _ (by simpa using hj)];exact Array.getElem?_eq_getElem _
 ·rw[List.getElem?_eq_none (by simp;omega),List.getElem?_eq_none (by rw[flat_length hk];simp;omega)]
theorem putCells_list {off:Nat} {F cur:Array Value} (h:off+F.size≤cur.size):((putCells id off F cur).toList.drop off).take F.size=F.toList:=by
 refine List.ext_getElem? fun j=>?_
 by_cases hj:j<F.size
 ·rw[List.getElem?_take_of_lt hj,List.getElem?_drop,Array.getElem?_toList,Array.getElem?_toList];unfold putCells;rw[Array.getElem?_mapIdx,Array.getElem?_eq_getElem (show off+j<cur.size by omega)];simp only[Option.map_some];rw[if_pos (by omega),Nat.add_sub_cancel_left,getElem!_pos F j hj];exact(Array.getElem?_eq_getElem hj).symm
 ·rw[List.getElem?_eq_none (by simp;omega),List.getElem?_eq_none (by simp;omega)]
theorem sortWorld_heap {α:Type} [Inhabited α] {enc:α→List Value} {k:Nat} {w:World} {b off n:Nat} {d:Array α} {os:Array Obj} {cur:Array Value} {e:TypeId} (hb:Blk w b e cur):Blk (sortWorldK enc k w b off n d os) b e (putCells id off (flatK enc k d) cur) ∧
  Keeps (fun i=>i=b) w (sortWorldK enc k w b off n d os):=by
 have hlt:=hb.lt;have hsz:(putRowK enc k (Sort.ahead w n) b off d).heap.size=w.heap.size:=by simp[putRowK,putRow,mapBlock]
 have hold:∀i,i<w.heap.size→(sortWorldK enc k w b off n d os).heap[i]?=(w.heap.modify b (onCells (putCells id off (flatK enc k d))))[i]?:=fun i hi=>by
  show ((putRowK enc k (Sort.ahead w n) b off d).heap++os)[i]?=_;rw[Array.getElem?_append_left (by rw[hsz];exact hi)];rfl
 refine⟨?_,rfl,rfl,rfl,?_,fun i hi hne=>?_,?_⟩
 ·unfold Blk;rw[hold b hlt,Array.getElem?_modify,if_pos rfl,show w.heap[b]?=some (.cells cur e (0,0)) from hb];rfl
 ·show w.heap.size≤((putRowK enc k (Sort.ahead w n) b off d).heap++os).size;rw[Array.size_append,hsz];omega
 ·rw[hold i hi,Array.getElem?_modify,if_neg (fun e=>hne e.symm)]
 ·show w.drawn≤w.drawn+n;omega
theorem SortFunc_S {P:Program} {ρ:Go.Shelf.Ren} (L:SlLaysF0.n6 P ρ) {α:Type} [Inhabited α] (k:Nat) (aE:∀w,(isAgg (ρ.t 24)).run P w=.ok true w) (zE:∀w,(Go.sizeOf (ρ.t 24)).run P w=.ok k w) (enc:α→List Value) (hk:∀x,(enc x).length=k) (h0:0<k) (h1:∀x,∀v∈enc x,v.oneCell'=true)
  (cf:α→α→Int) (hO:SWO (Go.Proofs.ltOf cf)) (g:Nat) (eg:∀args w,(callFunc g args).run P w=.ok (.enter g args) w) (hcmp:∀x y W,PureS P g [.agg (enc x).toArray,.agg (enc y).toArray] W (.int .i64 (cf x y))) (e:TypeId) (s:SV) (l:List α) (hl:l.length<4611686018427387904) :
  Spec P (ρ.f 6) [s.v,.func (.func g) #[] #[]] [own s e k (l.flatMap enc)] fun Γ _ Θ=>∃l':List α,l'.Perm l∧l'.Pairwise (fun a b=>Go.Proofs.ltOf cf b a=false)∧Θ=own s e k (l'.flatMap enc)::Γ:=by
 intro Γ w hs;obtain⟨x0,le0,p0⟩:=hs.head;have hO0:=(p0.mono le0).toOwn;have hlen:=hO0.1;rw[flat_length hk]at hlen;have hn:l.length=s.n:=Nat.eq_of_mul_eq_mul_right h0 hlen
 by_cases hz:s.n=0
 ·refine(show Calls P (ρ.f 6) #[.slice s.a s.n s.c,.func (.func g) #[] #[]] w _ from ?_);rw[hz];refine(AnyF.slices_SortFunc_none L s.a s.c _ w).mono ?_;rintro e' w' ⟨rfl,rfl⟩;obtain rfl:l=[]:=List.eq_nil_of_length_eq_zero (by omega);exact⟨_,_,rfl,⟨[],.refl _,List.Pairwise.nil,rfl⟩,hs,Ext.refl _⟩
 ·rcases hO0.2 with ⟨_,h3,_⟩ | ⟨b,off,c,cur,q1,q2,hB,q4,q5,q6,q7⟩
  ·omega
  ·simp only[SV.v,Value.slice.injEq,true_and]at q1;obtain⟨q1,rfl⟩:=q1;have hsz:l.toArray.size=l.length:=by simp
   have hfs:(flatK enc k l.toArray).toList=l.flatMap enc:=by rw[flatK_list hk h0]
   have hfz:(flatK enc k l.toArray).size=s.n*k:=by rw[Go.Sort.size_flatK,hsz,hn]
   have hcm:s.n*k≤s.c*k:=Nat.mul_le_mul_right _ q4
   have hH:HoldsK enc k w b off l.toArray:=by
    intro j hj;rw[hfz]at hj;refine⟨?_,hB.frozen _⟩;rw[hB.cell]
    have e1:(l.flatMap enc)[j]?=cur[off+j]?:=by
     rw[←q7,List.getElem?_take_of_lt hj,List.getElem?_drop,Array.getElem?_toList]
    rw[←e1,←hfs,Array.getElem?_toList,getElem!_pos _ _ (by rw[hfz];exact hj)];exact Array.getElem?_eq_getElem _
   have hcl:CmpLays P g #[] enc k cf b off l.toArray.size w:=fun m os dk _ x y=>by
    refine(pure_run (hcmp x y (sortWorldK enc k w b off m dk os))).mono ?_;rintro e' w' ⟨rfl,hb,hd⟩;obtain⟨q,os',e2⟩:=world_grow hb hd;exact⟨rfl,q,os',e2⟩
   have hc:=AnyQ.slices_SortFunc L k aE zE enc hk h1 cf hO g #[] b off s.c l.toArray w eg hcl hH hB.lt (by rw[hsz];exact hl);refine(show Calls P (ρ.f 6) #[.slice s.a s.n s.c,.func (.func g) #[] #[]] w _ from ?_);rw[q1];rw[hsz,hn]at hc;refine hc.mono ?_;rintro e' w' ⟨rfl,d',nn,os,hp,hsd,rfl⟩;obtain⟨k1,k2⟩:=sortWorld_heap (enc:=enc) (k:=k) (off:=off) (n:=nn) (d:=d') (os:=os) hB;have hd'z:d'.size=s.n:=by rw[hp.1,hsz,hn]
   have hF:(flatK enc k d').size=s.n*k:=by rw[Go.Sort.size_flatK,hd'z]
   refine⟨_,_,rfl,⟨d'.toList,?_,?_,rfl⟩,?_,k2.os,k2.tape,k2.output,k2.size,fun _=>k2.drawn⟩
   ·have:=hp.2.2;rw[←hd'z,Array.extract_size,hd'z,show s.n=l.toArray.size by rw[hsz,hn],Array.extract_size]at this
    simpa using this
   ·rw[List.pairwise_iff_getElem];intro i j hi hj hij;have:=hsd i j (Nat.zero_le _) hij (by simpa [hd'z] using hj);rw[getElem!_pos d' i (by simpa using hi),getElem!_pos d' j (by simpa using hj)]at this
    simpa using this
   ·refine hs.ownUpd (b:=b) ⟨?_,.inr ⟨b,off,s.c,_,by simp only[SV.v,q1],rfl,k1,q4,q5,?_,?_⟩⟩ (by rw[q1];rfl) k2
    ·rw[flat_length hk];simp[hd'z]
    ·simp only[putCells,Array.size_mapIdx];exact q6
    ·have:=putCells_list (off:=off) (F:=flatK enc k d') (cur:=cur) (by rw[hF];omega);rw[hF,flatK_list hk h0]at this;exact this
open Go.Sort (SWO putCells putRow mapBlock grow onCells Holds)
theorem putCells_enc {α:Type} [Inhabited α] (enc:α→Value) (off:Nat) (d:List α) (cur:Array Value):putCells enc off d.toArray cur=putCells id off (d.map enc).toArray cur:=by
 unfold putCells;refine congrArg (fun f=>Array.mapIdx f cur) ?_
 funext k x
 have hs:(d.map enc).toArray.size=d.toArray.size:=by simp
 rw[hs]
 split
 ·rename_i h;have hk:k-off<d.length:=by have:=h.2;simp at this;omega
  rw[getElem!_pos d.toArray (k-off) (by simpa using hk),getElem!_pos (d.map enc).toArray (k-off) (by simpa using hk)];simp
 ·rfl
theorem sortWorld1_heap {α:Type} [Inhabited α] {enc:α→Value} {w:World} {b off n:Nat} {d:Array α} {os:Array Obj} {cur:Array Value} {e:TypeId} (hb:Blk w b e cur):Blk (sortWorld enc w b off n d os) b e (putCells enc off d cur) ∧
  Keeps (fun i=>i=b) w (sortWorld enc w b off n d os):=by
 have hlt:=hb.lt;have hsz:(putRow enc (Sort.ahead w n) b off d).heap.size=w.heap.size:=by simp[putRow,mapBlock]
 have hold:∀i,i<w.heap.size→(sortWorld enc w b off n d os).heap[i]?=(w.heap.modify b (onCells (putCells enc off d)))[i]?:=fun i hi=>by
  show ((putRow enc (Sort.ahead w n) b off d).heap++os)[i]?=_;rw[Array.getElem?_append_left (by rw[hsz];exact hi)];rfl
 refine⟨?_,rfl,rfl,rfl,?_,fun i hi hne=>?_,?_⟩
 ·unfold Blk;rw[hold b hlt,Array.getElem?_modify,if_pos rfl,show w.heap[b]?=some (.cells cur e (0,0)) from hb];rfl
 ·show w.heap.size≤((putRow enc (Sort.ahead w n) b off d).heap++os).size;rw[Array.size_append,hsz];omega
 ·rw[hold i hi,Array.getElem?_modify,if_neg (fun e=>hne e.symm)]
 ·show w.drawn≤w.drawn+n;omega
theorem SortFunc1_S {P:Program} {ρ:Go.Shelf.Ren} (L:SlLaysF.n6 P ρ) (L0:SlLaysF0.n6 P ρ) {α:Type} [Inhabited α] (enc:α→Value) (h1:∀x,(enc x).oneCell'=true)
  (cf:α→α→Int) (hO:SWO (Go.Proofs.ltOf cf)) (g:Nat) (cb:List Value) (eg:∀args w,(callFunc g args).run P w=.ok (.enter g args) w) (pre:List Assn)
  (hcmp:∀x y W Γ,Sat W (pre++Γ)→PureS P g ([enc x,enc y]++cb) W (.int .i64 (cf x y))) (e:TypeId) (s:SV) (l:List α) (hl:l.length<4611686018427387904) :
  Spec P (ρ.f 6) [s.v,.func (.func g) #[] cb.toArray] (own s e 1 (l.map enc)::pre) fun Γ _ Θ=>∃l':List α,l'.Perm l∧l'.Pairwise (fun a b=>Go.Proofs.ltOf cf b a=false)∧Θ=own s e 1 (l'.map enc)::(pre++Γ):=by
 intro Γ w hs;obtain⟨x0,le0,p0⟩:=hs.head;have hO0:=(p0.mono le0).toOwn;have hlen:=hO0.1;rw[List.length_map,Nat.mul_one]at hlen
 by_cases hz:s.n=0
 ·refine(show Calls P (ρ.f 6) #[.slice s.a s.n s.c,.func (.func g) #[] cb.toArray] w _ from ?_);rw[hz];refine(AnyF.slices_SortFunc_none L0 s.a s.c _ w).mono ?_;rintro e' w' ⟨rfl,rfl⟩;obtain rfl:l=[]:=List.eq_nil_of_length_eq_zero (by omega);exact⟨_,_,rfl,⟨[],.refl _,List.Pairwise.nil,rfl⟩,hs,Ext.refl _⟩
 ·rcases hO0.2 with ⟨_,h3,_⟩ | ⟨b,off,c,cur,q1,q2,hB,q4,q5,q6,q7⟩
  ·omega
  ·simp only[SV.v,Value.slice.injEq,true_and]at q1;obtain⟨q1,rfl⟩:=q1;rw[Nat.mul_one]at q6 q7;have hsz:l.toArray.size=l.length:=by simp
   have hown:∀(m:Nat) (os:Array Obj) (dk:Array α),dk.size=l.toArray.size→Sat (sortWorld enc w b off m dk os) (own s e 1 (dk.toList.map enc)::(pre++Γ)):=fun m os dk hdk=>by
    obtain⟨k1,k2⟩:=sortWorld1_heap (enc:=enc) (off:=off) (n:=m) (d:=dk) (os:=os) hB;have hF:(dk.toList.map enc).toArray.size=s.n:=by simp[hdk];omega
    refine Sat.ownUpd (s:=s) (xs:=l.map enc) hs (b:=b) ⟨?_,.inr ⟨b,off,s.c,_,by simp only[SV.v,q1],rfl,k1,q4,q5,?_,?_⟩⟩ (by rw[q1];rfl) k2
    ·simpa using hF
    ·simp only[putCells,Array.size_mapIdx];omega
    ·have e2:=putCells_enc enc off dk.toList cur;rw[Array.toArray_toList]at e2;have:=putCells_list (off:=off) (F:=(dk.toList.map enc).toArray) (cur:=cur) (by rw[hF];omega);rw[hF]at this;rw[e2,Nat.mul_one];exact this
   have hH:Holds enc w b off l.toArray:=by
    intro j hj;rw[hsz]at hj;refine⟨?_,hB.frozen _⟩;rw[hB.cell]
    have e1:(l.map enc)[j]?=cur[off+j]?:=by
     rw[←q7,List.getElem?_take_of_lt (by omega),List.getElem?_drop,Array.getElem?_toList]
    rw[←e1,List.getElem?_map,List.getElem?_eq_getElem hj,getElem!_pos l.toArray j (by simpa using hj)];simp
   have hcl:CmpLays1 P g cb.toArray enc cf b off l.toArray.size w:=fun m os dk hdk x y=>by
    have hs2:=(hown m os dk hdk).ent (Ent.drop _ _);have ea:#[enc x,enc y]++cb.toArray=([enc x,enc y]++cb).toArray:=by simp
    rw[ea];refine((pure_run (hcmp x y (sortWorld enc w b off m dk os) Γ hs2)).mono ?_);rintro e' w' ⟨rfl,hb,hd⟩;obtain⟨q,os',e2⟩:=world_grow hb hd;exact⟨rfl,q,os',e2⟩
   have hc:=Any.slices_SortFunc L enc h1 cf hO g cb.toArray b off s.c l.toArray w eg hcl hH hB.lt (by rw[hsz];exact hl);refine(show Calls P (ρ.f 6) #[.slice s.a s.n s.c,.func (.func g) #[] cb.toArray] w _ from ?_);rw[q1];rw[hsz,show l.length=s.n by omega]at hc;refine hc.mono ?_;rintro e' w' ⟨rfl,d',nn,os,hp,hsd,rfl⟩;have hd'z:d'.size=l.toArray.size:=hp.1;obtain⟨_,k2⟩:=sortWorld1_heap (enc:=enc) (off:=off) (n:=nn) (d:=d') (os:=os) hB
   refine⟨_,_,rfl,⟨d'.toList,?_,?_,rfl⟩,hown nn os d' hd'z,k2.os,k2.tape,k2.output,k2.size,fun _=>k2.drawn⟩
   ·have:=hp.2.2;rw[show s.n=d'.size by rw[hd'z,hsz];omega,Array.extract_size,hd'z,Array.extract_size]at this
    simpa using this
   ·rw[List.pairwise_iff_getElem];intro i j hi hj hij;have:=hsd i j (Nat.zero_le _) hij (by simp at hj;rw[hd'z,hsz]at hj;omega);rw[getElem!_pos d' i (by simpa using hi),getElem!_pos d' j (by simpa using hj)]at this
    simpa using this
end Go.Proofs.YtdackcibfkkniaaGreatDoor
namespace Go.Proofs
open Go.Shelf
def Tryz.sort127_ren:Go.Shelf.Ren:=⟨fun | 6=>127 | 15=>138 | 14=>153 | 28=>165 | 29=>166 | 20=>179 | 21=>180 | 22=>181 | 23=>182 | 24=>183 | 25=>184 | 26=>185 | 27=>186 | 46=>214 | 47=>188 | 48=>189 | 49=>215 | 50=>216 | 57=>240 | n=>n,fun | 22=>53 | 24=>31 | 25=>203 | 3=>3 | 39=>215 | 0=>0 | 53=>31 | 55=>225 | 4=>4 | 46=>243 | 45=>242 | 50=>164 | 5=>5 | 9=>9 | 66=>270 | 70=>274 | 76=>293 | 77=>193 | n=>n,fun | n=>n⟩
theorem Tryz.sort127:Go.Proofs.SlLaysF.n6 Tryz.prog Tryz.sort127_ren:={
 mixed:=by kernel_rfl
 f6:=⟨Tryz.f127.name,by decide,Tryz.func127.trans (congrArg some (by kernel_rfl))⟩
 f14:=⟨Tryz.f153.name,by decide,Tryz.func153.trans (congrArg some (by kernel_rfl))⟩
 f15:=Tryz.func138.trans (congrArg some (by kernel_rfl))
 f20:=⟨Tryz.f179.name,by decide,Tryz.func179.trans (congrArg some (by kernel_rfl))⟩
 f21:=⟨Tryz.f180.name,by decide,Tryz.func180.trans (congrArg some (by kernel_rfl))⟩
 f22:=⟨Tryz.f181.name,by decide,Tryz.func181.trans (congrArg some (by kernel_rfl))⟩
 f23:=⟨Tryz.f182.name,by decide,Tryz.func182.trans (congrArg some (by kernel_rfl))⟩
 f24:=⟨Tryz.f183.name,by decide,Tryz.func183.trans (congrArg some (by kernel_rfl))⟩
 f25:=⟨Tryz.f184.name,by decide,Tryz.func184.trans (congrArg some (by kernel_rfl))⟩
 f26:=⟨Tryz.f185.name,by decide,Tryz.func185.trans (congrArg some (by kernel_rfl))⟩
 f27:=⟨Tryz.f186.name,by decide,Tryz.func186.trans (congrArg some (by kernel_rfl))⟩
 f28:=Tryz.func165.trans (congrArg some (by kernel_rfl))
 f29:=Tryz.func166.trans (congrArg some (by kernel_rfl))
 f46:=⟨Tryz.f214.name,by decide,Tryz.func214.trans (congrArg some (by kernel_rfl))⟩
 f47:=Tryz.func188.trans (congrArg some (by kernel_rfl))
 f48:=Tryz.func189.trans (congrArg some (by kernel_rfl))
 f49:=⟨Tryz.f215.name,by decide,Tryz.func215.trans (congrArg some (by kernel_rfl))⟩
 f50:=⟨Tryz.f216.name,by decide,Tryz.func216.trans (congrArg some (by kernel_rfl))⟩
 f57:=⟨Tryz.f240.name,by decide,Tryz.func240.trans (congrArg some (by kernel_rfl))⟩
 t0:=Tryz.underlying0
 a0:=Tryz.isAgg0
 z0:=Tryz.sizeOf0
 v0:=Tryz.zeroValue0
 t3:=Tryz.underlying3
 a3:=Tryz.isAgg3
 z3:=Tryz.sizeOf3
 v3:=Tryz.zeroValue3
 t4:=Tryz.underlying4
 a4:=Tryz.isAgg4
 z4:=Tryz.sizeOf4
 v4:=Tryz.zeroValue4
 t5:=Tryz.underlying5
 a5:=Tryz.isAgg5
 z5:=Tryz.sizeOf5
 v5:=Tryz.zeroValue5
 t9:=Tryz.underlying9
 a9:=Tryz.isAgg9
 z9:=Tryz.sizeOf9
 v9:=Tryz.zeroValue9
 t22:=Tryz.underlying53
 a22:=Tryz.isAgg53
 z22:=Tryz.sizeOf53
 v22:=Tryz.zeroValue53
 a24:=Tryz.isAgg31
 z24:=Tryz.sizeOf31
 t25:=Tryz.underlying203
 a25:=Tryz.isAgg203
 z25:=Tryz.sizeOf203
 v25:=Tryz.zeroValue203
 t39:=Tryz.underlying215
 a39:=Tryz.isAgg215
 z39:=Tryz.sizeOf215
 v39:=Tryz.zeroValue215
 t45:=Tryz.underlying242
 a45:=Tryz.isAgg242
 z45:=Tryz.sizeOf242
 v45:=Tryz.zeroValue242
 t46:=Tryz.underlying243
 a46:=Tryz.isAgg243
 z46:=Tryz.sizeOf243
 v46:=Tryz.zeroValue243
 t50:=Tryz.underlying164
 a50:=Tryz.isAgg164
 z50:=Tryz.sizeOf164
 v50:=Tryz.zeroValue164
 t53:=Tryz.underlying31
 a53:=Tryz.isAgg31
 z53:=Tryz.sizeOf31
 v53:=Tryz.zeroValue31
 t55:=Tryz.underlying225
 a55:=Tryz.isAgg225
 z55:=Tryz.sizeOf225
 v55:=Tryz.zeroValue225
 t66:=Tryz.underlying270
 a66:=Tryz.isAgg270
 z66:=Tryz.sizeOf270
 v66:=Tryz.zeroValue270
 t70:=Tryz.underlying274
 a70:=Tryz.isAgg274
 z70:=Tryz.sizeOf274
 v70:=Tryz.zeroValue274
 t76:=Tryz.underlying293
 a76:=Tryz.isAgg293
 z76:=Tryz.sizeOf293
 v76:=Tryz.zeroValue293
 t77:=Tryz.underlying193
 a77:=Tryz.isAgg193
 z77:=Tryz.sizeOf193
 v77:=Tryz.zeroValue193}
def Tryz.sort142_ren:Go.Shelf.Ren:=⟨fun | 6=>142 | 15=>138 | 14=>169 | 28=>165 | 29=>166 | 20=>193 | 21=>194 | 22=>195 | 23=>196 | 24=>197 | 25=>198 | 26=>199 | 27=>200 | 46=>218 | 47=>188 | 48=>189 | 49=>219 | 50=>220 | 57=>241 | n=>n,fun | 22=>184 | 24=>183 | 25=>224 | 3=>3 | 39=>215 | 0=>0 | 53=>31 | 55=>225 | 4=>4 | 46=>243 | 45=>242 | 50=>164 | 5=>5 | 9=>9 | 66=>270 | 70=>274 | 76=>293 | 77=>193 | n=>n,fun | n=>n⟩
theorem Tryz.sort142:Go.Proofs.SlLaysF0.n6 Tryz.prog Tryz.sort142_ren:={
 mixed:=by kernel_rfl
 f6:=⟨Tryz.f142.name,by decide,Tryz.func142.trans (congrArg some (by kernel_rfl))⟩
 f14:=⟨Tryz.f169.name,by decide,Tryz.func169.trans (congrArg some (by kernel_rfl))⟩
 f15:=Tryz.func138.trans (congrArg some (by kernel_rfl))
 f20:=⟨Tryz.f193.name,by decide,Tryz.func193.trans (congrArg some (by kernel_rfl))⟩
 f21:=⟨Tryz.f194.name,by decide,Tryz.func194.trans (congrArg some (by kernel_rfl))⟩
 f22:=⟨Tryz.f195.name,by decide,Tryz.func195.trans (congrArg some (by kernel_rfl))⟩
 f23:=⟨Tryz.f196.name,by decide,Tryz.func196.trans (congrArg some (by kernel_rfl))⟩
 f24:=⟨Tryz.f197.name,by decide,Tryz.func197.trans (congrArg some (by kernel_rfl))⟩
 f25:=⟨Tryz.f198.name,by decide,Tryz.func198.trans (congrArg some (by kernel_rfl))⟩
 f26:=⟨Tryz.f199.name,by decide,Tryz.func199.trans (congrArg some (by kernel_rfl))⟩
 f27:=⟨Tryz.f200.name,by decide,Tryz.func200.trans (congrArg some (by kernel_rfl))⟩
 f28:=Tryz.func165.trans (congrArg some (by kernel_rfl))
 f29:=Tryz.func166.trans (congrArg some (by kernel_rfl))
 f46:=⟨Tryz.f218.name,by decide,Tryz.func218.trans (congrArg some (by kernel_rfl))⟩
 f47:=Tryz.func188.trans (congrArg some (by kernel_rfl))
 f48:=Tryz.func189.trans (congrArg some (by kernel_rfl))
 f49:=⟨Tryz.f219.name,by decide,Tryz.func219.trans (congrArg some (by kernel_rfl))⟩
 f50:=⟨Tryz.f220.name,by decide,Tryz.func220.trans (congrArg some (by kernel_rfl))⟩
 f57:=⟨Tryz.f241.name,by decide,Tryz.func241.trans (congrArg some (by kernel_rfl))⟩
 t0:=Tryz.underlying0
 a0:=Tryz.isAgg0
 z0:=Tryz.sizeOf0
 v0:=Tryz.zeroValue0
 t3:=Tryz.underlying3
 a3:=Tryz.isAgg3
 z3:=Tryz.sizeOf3
 v3:=Tryz.zeroValue3
 t4:=Tryz.underlying4
 a4:=Tryz.isAgg4
 z4:=Tryz.sizeOf4
 v4:=Tryz.zeroValue4
 t5:=Tryz.underlying5
 a5:=Tryz.isAgg5
 z5:=Tryz.sizeOf5
 v5:=Tryz.zeroValue5
 t9:=Tryz.underlying9
 a9:=Tryz.isAgg9
 z9:=Tryz.sizeOf9
 v9:=Tryz.zeroValue9
 t22:=Tryz.underlying184
 a22:=Tryz.isAgg184
 z22:=Tryz.sizeOf184
 v22:=Tryz.zeroValue184
 t25:=Tryz.underlying224
 a25:=Tryz.isAgg224
 z25:=Tryz.sizeOf224
 v25:=Tryz.zeroValue224
 t39:=Tryz.underlying215
 a39:=Tryz.isAgg215
 z39:=Tryz.sizeOf215
 v39:=Tryz.zeroValue215
 t45:=Tryz.underlying242
 a45:=Tryz.isAgg242
 z45:=Tryz.sizeOf242
 v45:=Tryz.zeroValue242
 t46:=Tryz.underlying243
 a46:=Tryz.isAgg243
 z46:=Tryz.sizeOf243
 v46:=Tryz.zeroValue243
 t50:=Tryz.underlying164
 a50:=Tryz.isAgg164
 z50:=Tryz.sizeOf164
 v50:=Tryz.zeroValue164
 t53:=Tryz.underlying31
 a53:=Tryz.isAgg31
 z53:=Tryz.sizeOf31
 v53:=Tryz.zeroValue31
 t55:=Tryz.underlying225
 a55:=Tryz.isAgg225
 z55:=Tryz.sizeOf225
 v55:=Tryz.zeroValue225
 t66:=Tryz.underlying270
 a66:=Tryz.isAgg270
 z66:=Tryz.sizeOf270
 v66:=Tryz.zeroValue270
 t70:=Tryz.underlying274
 a70:=Tryz.isAgg274
 z70:=Tryz.sizeOf274
 v70:=Tryz.zeroValue274
 t76:=Tryz.underlying293
 a76:=Tryz.isAgg293
 z76:=Tryz.sizeOf293
 v76:=Tryz.zeroValue293
 t77:=Tryz.underlying193
 a77:=Tryz.isAgg193
 z77:=Tryz.sizeOf193
 v77:=Tryz.zeroValue193}
def Tryz.sort173_ren:Go.Shelf.Ren:=⟨fun | 6=>173 | 15=>138 | 14=>202 | 28=>165 | 29=>166 | 20=>221 | 21=>222 | 22=>223 | 23=>224 | 24=>225 | 25=>226 | 26=>227 | 27=>228 | 46=>242 | 47=>188 | 48=>189 | 49=>243 | 50=>244 | 57=>249 | n=>n,fun | 22=>228 | 24=>232 | 25=>260 | 3=>3 | 39=>215 | 0=>0 | 53=>31 | 55=>225 | 4=>4 | 46=>243 | 45=>242 | 50=>164 | 5=>5 | 9=>9 | 66=>270 | 70=>274 | 76=>293 | 77=>193 | n=>n,fun | n=>n⟩
theorem Tryz.sort173:Go.Proofs.SlLaysF0.n6 Tryz.prog Tryz.sort173_ren:={
 mixed:=by kernel_rfl
 f6:=⟨Tryz.f173.name,by decide,Tryz.func173.trans (congrArg some (by kernel_rfl))⟩
 f14:=⟨Tryz.f202.name,by decide,Tryz.func202.trans (congrArg some (by kernel_rfl))⟩
 f15:=Tryz.func138.trans (congrArg some (by kernel_rfl))
 f20:=⟨Tryz.f221.name,by decide,Tryz.func221.trans (congrArg some (by kernel_rfl))⟩
 f21:=⟨Tryz.f222.name,by decide,Tryz.func222.trans (congrArg some (by kernel_rfl))⟩
 f22:=⟨Tryz.f223.name,by decide,Tryz.func223.trans (congrArg some (by kernel_rfl))⟩
 f23:=⟨Tryz.f224.name,by decide,Tryz.func224.trans (congrArg some (by kernel_rfl))⟩
 f24:=⟨Tryz.f225.name,by decide,Tryz.func225.trans (congrArg some (by kernel_rfl))⟩
 f25:=⟨Tryz.f226.name,by decide,Tryz.func226.trans (congrArg some (by kernel_rfl))⟩
 f26:=⟨Tryz.f227.name,by decide,Tryz.func227.trans (congrArg some (by kernel_rfl))⟩
 f27:=⟨Tryz.f228.name,by decide,Tryz.func228.trans (congrArg some (by kernel_rfl))⟩
 f28:=Tryz.func165.trans (congrArg some (by kernel_rfl))
 f29:=Tryz.func166.trans (congrArg some (by kernel_rfl))
 f46:=⟨Tryz.f242.name,by decide,Tryz.func242.trans (congrArg some (by kernel_rfl))⟩
 f47:=Tryz.func188.trans (congrArg some (by kernel_rfl))
 f48:=Tryz.func189.trans (congrArg some (by kernel_rfl))
 f49:=⟨Tryz.f243.name,by decide,Tryz.func243.trans (congrArg some (by kernel_rfl))⟩
 f50:=⟨Tryz.f244.name,by decide,Tryz.func244.trans (congrArg some (by kernel_rfl))⟩
 f57:=⟨Tryz.f249.name,by decide,Tryz.func249.trans (congrArg some (by kernel_rfl))⟩
 t0:=Tryz.underlying0
 a0:=Tryz.isAgg0
 z0:=Tryz.sizeOf0
 v0:=Tryz.zeroValue0
 t3:=Tryz.underlying3
 a3:=Tryz.isAgg3
 z3:=Tryz.sizeOf3
 v3:=Tryz.zeroValue3
 t4:=Tryz.underlying4
 a4:=Tryz.isAgg4
 z4:=Tryz.sizeOf4
 v4:=Tryz.zeroValue4
 t5:=Tryz.underlying5
 a5:=Tryz.isAgg5
 z5:=Tryz.sizeOf5
 v5:=Tryz.zeroValue5
 t9:=Tryz.underlying9
 a9:=Tryz.isAgg9
 z9:=Tryz.sizeOf9
 v9:=Tryz.zeroValue9
 t22:=Tryz.underlying228
 a22:=Tryz.isAgg228
 z22:=Tryz.sizeOf228
 v22:=Tryz.zeroValue228
 t25:=Tryz.underlying260
 a25:=Tryz.isAgg260
 z25:=Tryz.sizeOf260
 v25:=Tryz.zeroValue260
 t39:=Tryz.underlying215
 a39:=Tryz.isAgg215
 z39:=Tryz.sizeOf215
 v39:=Tryz.zeroValue215
 t45:=Tryz.underlying242
 a45:=Tryz.isAgg242
 z45:=Tryz.sizeOf242
 v45:=Tryz.zeroValue242
 t46:=Tryz.underlying243
 a46:=Tryz.isAgg243
 z46:=Tryz.sizeOf243
 v46:=Tryz.zeroValue243
 t50:=Tryz.underlying164
 a50:=Tryz.isAgg164
 z50:=Tryz.sizeOf164
 v50:=Tryz.zeroValue164
 t53:=Tryz.underlying31
 a53:=Tryz.isAgg31
 z53:=Tryz.sizeOf31
 v53:=Tryz.zeroValue31
 t55:=Tryz.underlying225
 a55:=Tryz.isAgg225
 z55:=Tryz.sizeOf225
 v55:=Tryz.zeroValue225
 t66:=Tryz.underlying270
 a66:=Tryz.isAgg270
 z66:=Tryz.sizeOf270
 v66:=Tryz.zeroValue270
 t70:=Tryz.underlying274
 a70:=Tryz.isAgg274
 z70:=Tryz.sizeOf274
 v70:=Tryz.zeroValue274
 t76:=Tryz.underlying293
 a76:=Tryz.isAgg293
 z76:=Tryz.sizeOf293
 v76:=Tryz.zeroValue293
 t77:=Tryz.underlying193
 a77:=Tryz.isAgg193
 z77:=Tryz.sizeOf193
 v77:=Tryz.zeroValue193}
def Tryz.sort177_ren:Go.Shelf.Ren:=⟨fun | 6=>177 | 15=>138 | 14=>213 | 28=>165 | 29=>166 | 20=>232 | 21=>233 | 22=>234 | 23=>235 | 24=>236 | 25=>237 | 26=>238 | 27=>239 | 46=>246 | 47=>188 | 48=>189 | 49=>247 | 50=>248 | 57=>250 | n=>n,fun | 22=>150 | 24=>152 | 25=>264 | 3=>3 | 39=>215 | 0=>0 | 53=>31 | 55=>225 | 4=>4 | 46=>243 | 45=>242 | 50=>164 | 5=>5 | 9=>9 | 66=>270 | 70=>274 | 76=>293 | 77=>193 | n=>n,fun | n=>n⟩
theorem Tryz.sort177:Go.Proofs.SlLaysF0.n6 Tryz.prog Tryz.sort177_ren:={
 mixed:=by kernel_rfl
 f6:=⟨Tryz.f177.name,by decide,Tryz.func177.trans (congrArg some (by kernel_rfl))⟩
 f14:=⟨Tryz.f213.name,by decide,Tryz.func213.trans (congrArg some (by kernel_rfl))⟩
 f15:=Tryz.func138.trans (congrArg some (by kernel_rfl))
 f20:=⟨Tryz.f232.name,by decide,Tryz.func232.trans (congrArg some (by kernel_rfl))⟩
 f21:=⟨Tryz.f233.name,by decide,Tryz.func233.trans (congrArg some (by kernel_rfl))⟩
 f22:=⟨Tryz.f234.name,by decide,Tryz.func234.trans (congrArg some (by kernel_rfl))⟩
 f23:=⟨Tryz.f235.name,by decide,Tryz.func235.trans (congrArg some (by kernel_rfl))⟩
 f24:=⟨Tryz.f236.name,by decide,Tryz.func236.trans (congrArg some (by kernel_rfl))⟩
 f25:=⟨Tryz.f237.name,by decide,Tryz.func237.trans (congrArg some (by kernel_rfl))⟩
 f26:=⟨Tryz.f238.name,by decide,Tryz.func238.trans (congrArg some (by kernel_rfl))⟩
 f27:=⟨Tryz.f239.name,by decide,Tryz.func239.trans (congrArg some (by kernel_rfl))⟩
 f28:=Tryz.func165.trans (congrArg some (by kernel_rfl))
 f29:=Tryz.func166.trans (congrArg some (by kernel_rfl))
 f46:=⟨Tryz.f246.name,by decide,Tryz.func246.trans (congrArg some (by kernel_rfl))⟩
 f47:=Tryz.func188.trans (congrArg some (by kernel_rfl))
 f48:=Tryz.func189.trans (congrArg some (by kernel_rfl))
 f49:=⟨Tryz.f247.name,by decide,Tryz.func247.trans (congrArg some (by kernel_rfl))⟩
 f50:=⟨Tryz.f248.name,by decide,Tryz.func248.trans (congrArg some (by kernel_rfl))⟩
 f57:=⟨Tryz.f250.name,by decide,Tryz.func250.trans (congrArg some (by kernel_rfl))⟩
 t0:=Tryz.underlying0
 a0:=Tryz.isAgg0
 z0:=Tryz.sizeOf0
 v0:=Tryz.zeroValue0
 t3:=Tryz.underlying3
 a3:=Tryz.isAgg3
 z3:=Tryz.sizeOf3
 v3:=Tryz.zeroValue3
 t4:=Tryz.underlying4
 a4:=Tryz.isAgg4
 z4:=Tryz.sizeOf4
 v4:=Tryz.zeroValue4
 t5:=Tryz.underlying5
 a5:=Tryz.isAgg5
 z5:=Tryz.sizeOf5
 v5:=Tryz.zeroValue5
 t9:=Tryz.underlying9
 a9:=Tryz.isAgg9
 z9:=Tryz.sizeOf9
 v9:=Tryz.zeroValue9
 t22:=Tryz.underlying150
 a22:=Tryz.isAgg150
 z22:=Tryz.sizeOf150
 v22:=Tryz.zeroValue150
 t25:=Tryz.underlying264
 a25:=Tryz.isAgg264
 z25:=Tryz.sizeOf264
 v25:=Tryz.zeroValue264
 t39:=Tryz.underlying215
 a39:=Tryz.isAgg215
 z39:=Tryz.sizeOf215
 v39:=Tryz.zeroValue215
 t45:=Tryz.underlying242
 a45:=Tryz.isAgg242
 z45:=Tryz.sizeOf242
 v45:=Tryz.zeroValue242
 t46:=Tryz.underlying243
 a46:=Tryz.isAgg243
 z46:=Tryz.sizeOf243
 v46:=Tryz.zeroValue243
 t50:=Tryz.underlying164
 a50:=Tryz.isAgg164
 z50:=Tryz.sizeOf164
 v50:=Tryz.zeroValue164
 t53:=Tryz.underlying31
 a53:=Tryz.isAgg31
 z53:=Tryz.sizeOf31
 v53:=Tryz.zeroValue31
 t55:=Tryz.underlying225
 a55:=Tryz.isAgg225
 z55:=Tryz.sizeOf225
 v55:=Tryz.zeroValue225
 t66:=Tryz.underlying270
 a66:=Tryz.isAgg270
 z66:=Tryz.sizeOf270
 v66:=Tryz.zeroValue270
 t70:=Tryz.underlying274
 a70:=Tryz.isAgg274
 z70:=Tryz.sizeOf274
 v70:=Tryz.zeroValue274
 t76:=Tryz.underlying293
 a76:=Tryz.isAgg293
 z76:=Tryz.sizeOf293
 v76:=Tryz.zeroValue293
 t77:=Tryz.underlying193
 a77:=Tryz.isAgg193
 z77:=Tryz.sizeOf193
 v77:=Tryz.zeroValue193}
def Tryz.lays189_ren:Go.Shelf.Ren:=⟨fun | 189=>147 | 125=>138 | 257=>175 | 128=>165 | 129=>166 | 294=>203 | 295=>204 | 296=>205 | 297=>206 | 298=>207 | 299=>208 | 216=>209 | 300=>210 | 301=>211 | 328=>229 | 329=>188 | 330=>189 | 331=>230 | 332=>231 | 215=>152 | 343=>245 | n=>n,fun | 28=>66 | 3=>3 | 46=>215 | 0=>0 | 51=>31 | 53=>225 | 4=>4 | 183=>243 | 182=>242 | 131=>164 | 5=>5 | 9=>9 | 218=>270 | 222=>274 | 228=>293 | 229=>193 | n=>n,fun | n=>n⟩
theorem Tryz.lays189:Go.Proofs.Lays.n189 Tryz.prog Tryz.lays189_ren:={
 mixed:=by kernel_rfl
 f125:=Tryz.func138.trans (congrArg some (by kernel_rfl))
 f128:=Tryz.func165.trans (congrArg some (by kernel_rfl))
 f129:=Tryz.func166.trans (congrArg some (by kernel_rfl))
 f189:=Tryz.func147.trans (congrArg some (by kernel_rfl))
 f215:=Tryz.func152.trans (congrArg some (by kernel_rfl))
 f216:=Tryz.func209.trans (congrArg some (by kernel_rfl))
 f257:=Tryz.func175.trans (congrArg some (by kernel_rfl))
 f294:=Tryz.func203.trans (congrArg some (by kernel_rfl))
 f295:=Tryz.func204.trans (congrArg some (by kernel_rfl))
 f296:=Tryz.func205.trans (congrArg some (by kernel_rfl))
 f297:=Tryz.func206.trans (congrArg some (by kernel_rfl))
 f298:=Tryz.func207.trans (congrArg some (by kernel_rfl))
 f299:=Tryz.func208.trans (congrArg some (by kernel_rfl))
 f300:=Tryz.func210.trans (congrArg some (by kernel_rfl))
 f301:=Tryz.func211.trans (congrArg some (by kernel_rfl))
 f328:=Tryz.func229.trans (congrArg some (by kernel_rfl))
 f329:=Tryz.func188.trans (congrArg some (by kernel_rfl))
 f330:=Tryz.func189.trans (congrArg some (by kernel_rfl))
 f331:=Tryz.func230.trans (congrArg some (by kernel_rfl))
 f332:=Tryz.func231.trans (congrArg some (by kernel_rfl))
 f343:=Tryz.func245.trans (congrArg some (by kernel_rfl))
 t0:=Tryz.underlying0
 a0:=Tryz.isAgg0
 z0:=Tryz.sizeOf0
 v0:=Tryz.zeroValue0
 t3:=Tryz.underlying3
 a3:=Tryz.isAgg3
 z3:=Tryz.sizeOf3
 v3:=Tryz.zeroValue3
 t4:=Tryz.underlying4
 a4:=Tryz.isAgg4
 z4:=Tryz.sizeOf4
 v4:=Tryz.zeroValue4
 t5:=Tryz.underlying5
 a5:=Tryz.isAgg5
 z5:=Tryz.sizeOf5
 v5:=Tryz.zeroValue5
 t9:=Tryz.underlying9
 a9:=Tryz.isAgg9
 z9:=Tryz.sizeOf9
 v9:=Tryz.zeroValue9
 t28:=Tryz.underlying66
 a28:=Tryz.isAgg66
 z28:=Tryz.sizeOf66
 v28:=Tryz.zeroValue66
 t46:=Tryz.underlying215
 a46:=Tryz.isAgg215
 z46:=Tryz.sizeOf215
 v46:=Tryz.zeroValue215
 t51:=Tryz.underlying31
 a51:=Tryz.isAgg31
 z51:=Tryz.sizeOf31
 v51:=Tryz.zeroValue31
 t53:=Tryz.underlying225
 a53:=Tryz.isAgg225
 z53:=Tryz.sizeOf225
 v53:=Tryz.zeroValue225
 t131:=Tryz.underlying164
 a131:=Tryz.isAgg164
 z131:=Tryz.sizeOf164
 v131:=Tryz.zeroValue164
 t182:=Tryz.underlying242
 a182:=Tryz.isAgg242
 z182:=Tryz.sizeOf242
 v182:=Tryz.zeroValue242
 t183:=Tryz.underlying243
 a183:=Tryz.isAgg243
 z183:=Tryz.sizeOf243
 v183:=Tryz.zeroValue243
 t218:=Tryz.underlying270
 a218:=Tryz.isAgg270
 z218:=Tryz.sizeOf270
 v218:=Tryz.zeroValue270
 t222:=Tryz.underlying274
 a222:=Tryz.isAgg274
 z222:=Tryz.sizeOf274
 v222:=Tryz.zeroValue274
 t228:=Tryz.underlying293
 a228:=Tryz.isAgg293
 z228:=Tryz.sizeOf293
 v228:=Tryz.zeroValue293
 t229:=Tryz.underlying193
 a229:=Tryz.isAgg193
 z229:=Tryz.sizeOf193
 v229:=Tryz.zeroValue193}
def Tryz.lays264_ren:Go.Shelf.Ren:=⟨fun | 264=>144 | n=>n,fun | 53=>225 | 46=>215 | n=>n,fun | n=>n⟩
theorem Tryz.lays264:Go.Proofs.Lays.n264 Tryz.prog Tryz.lays264_ren:={
 mixed:=by kernel_rfl
 f264:=Tryz.func144.trans (congrArg some (by kernel_rfl))
 t46:=Tryz.underlying215
 a46:=Tryz.isAgg215
 z46:=Tryz.sizeOf215
 v46:=Tryz.zeroValue215
 t53:=Tryz.underlying225
 a53:=Tryz.isAgg225
 z53:=Tryz.sizeOf225
 v53:=Tryz.zeroValue225}
end Go.Proofs
namespace Go.Proofs.YtdackcibfkkniaaGreatDoor
open Go.RowKit
def nsOf (js:List Jb) (j:Nat):Bs:=((look js j).map (·.ns)).getD 0#16
def rowJ (m:Mx) (r:Nat):List Jb:=(List.range 16).filterMap fun i=>m.js.find? fun x=>decide (x.row=r)&&decide (tz x.ns=i)
theorem mem_rowJ {m:Mx} (hm:MxOk m) {r:Nat} {x:Jb}:x∈rowJ m r↔x∈m.js∧x.row=r:=by
 simp only[rowJ,List.mem_filterMap,List.mem_range]
 constructor
 ·rintro ⟨i,_,hf⟩;have h1:=List.mem_of_find?_eq_some hf;have h2:=List.find?_some hf;rw[Bool.and_eq_true,decide_eq_true_eq]at h2;exact⟨h1,h2.1⟩
 ·rintro ⟨h1,h2⟩;have ht:=tz_mem (hm.some x h1);refine⟨tz x.ns,lst_lt ht,?_⟩;cases hf:m.js.find? fun y=>decide (y.row=r)&&decide (tz y.ns=tz x.ns) with
  | none=>
   have:=List.find?_eq_none.1 hf x h1;simp[h2]at this
  | some y=>
   have h3:=List.mem_of_find?_eq_some hf;have h4:=List.find?_some hf;rw[Bool.and_eq_true,decide_eq_true_eq,decide_eq_true_eq]at h4;refine congrArg some (Classical.byContradiction fun hne=>?_);exact hm.dis y h3 x h1 (fun e=>hne (id_inj hm.srt h3 h1 e)) (h4.1.trans h2.symm) (tz x.ns) (by rw[←h4.2];exact mem_lst.1 (tz_mem (hm.some y h3))) (mem_lst.1 ht)
theorem rowJ_srt {m:Mx} {r:Nat}:(rowJ m r).Pairwise fun a b=>tz a.ns<tz b.ns:=by
 rw[rowJ,List.pairwise_filterMap];refine List.pairwise_lt_range.imp fun h x hx y hy=>?_;have h1:=List.find?_some hx;have h2:=List.find?_some hy;rw[Bool.and_eq_true,decide_eq_true_eq,decide_eq_true_eq]at h1 h2;rw[h1.2,h2.2];exact h
theorem rowJ_nodup {m:Mx} {r:Nat}:(rowJ m r).Nodup:=rowJ_srt.imp fun h e=>by rw[e]at h;omega
def rowIds (m:Mx) (z:Int):List Nat:=if rowB m z then (rowJ m z.toNat).map (·.id) else []
abbrev idsV (l:List Nat):List Value:=l.map fun j:Nat=>Value.int .u32 (j:Int)
def cmpR (js:List Jb) (a b:Nat):Int:=(tz (nsOf js a):Int)-tz (nsOf js b)
theorem ltR (js:List Jb) (a b:Nat):Go.Proofs.ltOf (cmpR js) a b=decide (tz (nsOf js a)<tz (nsOf js b)):=by
 rw[Go.Proofs.ltOf];exact decide_eq_decide.2 (by unfold cmpR;omega)
theorem cmpR_swo (js:List Jb):Go.Sort.SWO (Go.Proofs.ltOf (cmpR js)) where
 irrefl:=fun x=>by rw[ltR];exact decide_eq_false (by omega)
 trans:=fun x y z h1 h2=>by rw[ltR]at *;have h1:=of_decide_eq_true h1;have h2:=of_decide_eq_true h2;exact decide_eq_true (by omega)
 ntrans:=fun x y z h1 h2=>by rw[ltR]at *;have h1:=of_decide_eq_false h1;have h2:=of_decide_eq_false h2;exact decide_eq_false (by omega)
theorem cmpR_P (t2 b mb:Nat) (m:Mx) (tv:SV) (l:List (Int×Value)) (hok:MxOk m) (hp:l.Perm (m.js.map jbE)) (x y:Nat) {W0:World} (hW0:TabW W0) (W:World) (Γ:List Assn) (hs:Sat W ([blk t2 63 #[.pointer (some ⟨b,0,none⟩)],blk b 124 (mxC m mb tv).toArray,mapL mb .u32 l,old W0]++Γ)) :
  PureS Tryz.prog 128 ([.int .u32 (x:Int),.int .u32 (y:Int)]++[.pointer (some ⟨t2,0,none⟩)]) W (.int .i64 (cmpR m.js x y)):=by
 have h2:W.cell? ⟨t2,0,none⟩=some (.pointer (some ⟨b,0,none⟩)):=by rw[(hs.isBlk).cell];rfl
 have hs1:=hs.ent (Ent.drop _ _);have h3:W.cell? ⟨b,0+3,none⟩=some (.map (some mb)):=by rw[(hs1.isBlk).cell];rfl
 have hs2:=hs1.ent (Ent.drop _ _);obtain⟨es,clock,h4,h5⟩:=hs2.isMap;have hs3:=hs2.ent (Ent.drop _ _);have hW:TabW W:=fun i hi=>(HasOld.head (Γ:=[]++Γ) (W:=W0)).cell hs3 (hW0 i hi);have hg:=fun j=>get_look hok.srt hp j
 have hns:∀j:Nat,∃r:Int,(alGet (j:Int) l).getD (.agg #[.int .i64 0,.int .u16 0])=.agg #[.int .i64 r,bsv (nsOf m.js j)]:=fun j=>by
  rw[hg j,nsOf];cases look m.js j with
  | none=>exact⟨0,rfl⟩
  | some x=>exact⟨_,rfl⟩
 obtain⟨rx,hrx⟩:=hns x;obtain⟨ry,hry⟩:=hns y;have t1:=tz_le (nsOf m.js x);have t2':=tz_le (nsOf m.js y);refine Spec.of_body Tryz.func128 rfl Tryz.ntmps128 rfl ?_;intro w0 Γ';show S _ w0 [(0,.int .u32 (x:Int)),(1,.int .u32 (y:Int)),(2,.pointer (some ⟨t2,0,none⟩))] (old W::Γ') _;refine ZS ?_;refine ZY 5 ?_;refine Zd ([old W]) [] [0,1,2,3,4,5,6,8,9,10,11,12,13,14] ?_;refine Zw ef (q_loadW Eo.h rfl h2) ?_;refine ZY 2 ?_;refine Zw ef (q_loadW Eo.h rfl h3) ?_;refine Zy ?_;refine Zw ef (q_lookup1W l (.agg #[.int .i64 rx,bsv (nsOf m.js x)]) Tryz.underlying117 Tryz.underlying31 Tryz.zv121.h rfl rfl rfl h4 h5 hrx.symm) ?_;refine Zy ?_;refine Zw ef (q_loadW Eo.h rfl h2) ?_;refine ZY 2 ?_;refine Zw ef (q_loadW Eo.h rfl h3) ?_;refine Zy ?_;refine Zw ef (q_lookup1W l (.agg #[.int .i64 ry,bsv (nsOf m.js y)]) Tryz.underlying117 Tryz.underlying31 Tryz.zv121.h rfl rfl rfl h4 h5 hry.symm) ?_;refine Zy ?_;refine Z1 (i:=7) ef ef ?_;refine  (Zcp Ze (tz16_S (nsOf m.js x) hW) ?_);refine Zk [] ?_;refine Z1 (i:=15) ef ef ?_;refine  (Zcp Ze (tz16_S (nsOf m.js y) hW) ?_);refine Zk [16,17] ?_;refine Zw ef (Zm ef ef) ?_;refine Zy ?_;refine ZD ?_;refine Zy ?_;exact Zf ef Zq (⟨rfl,rfl⟩)
theorem nsOf_mem {m:Mx} (hm:MxOk m) {x:Jb} (hx:x∈m.js):nsOf m.js x.id=x.ns:=by rw[nsOf,look_mem hm.srt hx];rfl
theorem sorted_rowJ {m:Mx} (hm:MxOk m) {r:Nat} {ks l':List Nat} (hp:l'.Perm ks) (hk:ks.Perm ((rowJ m r).map (·.id))) (hs:l'.Pairwise fun a b=>Go.Proofs.ltOf (cmpR m.js) b a=false):l'=(rowJ m r).map (·.id):=by
 have hp2:=hp.trans hk;have hmem:∀j∈l',∃x∈rowJ m r,x.id=j:=fun j hj=>List.mem_map.1 (hp2.mem_iff.1 hj)
 have hnd:((rowJ m r).map (·.id)).Nodup:=List.pairwise_map.2 (rowJ_srt.imp_of_mem fun {a b} ha hb h e=>by
  rw[id_inj hm.srt ((mem_rowJ hm).1 ha).1 ((mem_rowJ hm).1 hb).1 e]at h;omega)
 have hnd':l'.Nodup:=hp2.nodup_iff.2 hnd
 refine List.Perm.eq_of_pairwise (le:=fun a b=>tz (nsOf m.js a)<tz (nsOf m.js b)) (fun a b _ _ h1 h2=>by omega) ?_ ?_ hp2
 ·refine(hs.and hnd').imp_of_mem fun {a b} ha hb h=>?_;obtain⟨h1,h2⟩:=h;rw[ltR]at h1;have h1:=of_decide_eq_false h1;obtain⟨x,hx,rfl⟩:=hmem a ha;obtain⟨y,hy,rfl⟩:=hmem b hb;obtain⟨x1,x2⟩:=(mem_rowJ hm).1 hx;obtain⟨y1,y2⟩:=(mem_rowJ hm).1 hy;rw[nsOf_mem hm x1,nsOf_mem hm y1]at h1 ⊢;refine Classical.byContradiction fun h3=>?_;have e:tz x.ns=tz y.ns:=by omega
  exact hm.dis x x1 y y1 h2 (x2.trans y2.symm) (tz x.ns) (mem_lst.1 (tz_mem (hm.some x x1))) (by rw[e];exact mem_lst.1 (tz_mem (hm.some y y1)))
 ·refine List.pairwise_map.2 (rowJ_srt.imp_of_mem fun {a b} ha hb h=>?_);rw[nsOf_mem hm ((mem_rowJ hm).1 ha).1,nsOf_mem hm ((mem_rowJ hm).1 hb).1];exact h
theorem filter_rowJ {m:Mx} (hm:MxOk m) (r:Nat):(m.js.filter fun x=>decide (x.row=r)).Perm (rowJ m r):=
 (List.perm_ext_iff_of_nodup ((hm.srt.imp fun h e=>by rw[e]at h;omega:m.js.Nodup).filter _) rowJ_nodup).2 fun x=>by rw[mem_rowJ hm,List.mem_filter,decide_eq_true_eq]
theorem perm_unmap {α β:Type} {f:α→β} {l m:List β} (h:l.Perm m):∀ {js:List α},js.map f=m→∃jl:List α,jl.Perm js∧l=jl.map f:=by
 induction h with
 | nil=>intro js hm;exact⟨[],by rw[List.map_eq_nil_iff.1 hm],rfl⟩
 | cons x _ ih=>
  intro js hm;cases js with
  | nil=>cases hm
  | cons j js=>
   simp only[List.map_cons,List.cons.injEq]at hm;obtain⟨jl,h1,h2⟩:=ih hm.2;exact⟨j::jl,h1.cons _,by rw[List.map_cons,hm.1,h2]⟩
 | swap x y l=>
  intro js hm
  match js,hm with
  | a::b::js,hm=>
   simp only[List.map_cons,List.cons.injEq]at hm;exact⟨b::a::js,.swap _ _ _,by rw[List.map_cons,List.map_cons,hm.1,hm.2.1,hm.2.2]⟩
 | trans _ _ ih1 ih2=>
  intro js hm;obtain⟨jl,h1,h2⟩:=ih2 hm;obtain⟨jl',h3,h4⟩:=ih1 h2.symm;exact⟨jl',h3.trans h1,h4⟩
theorem erase_perm {α:Type} {l:List α} {i:Nat} {x:α} (h:l[i]?=some x):l.Perm (x::l.eraseIdx i):=by
 induction l generalizing i with
 | nil=>simp at h
 | cons y l ih=>
  cases i with
  | zero=>simp only[List.getElem?_cons_zero,Option.some.injEq]at h;subst h;exact .refl _
  | succ i=>exact((ih (by simpa using h)).cons y).trans (.swap _ _ _)
abbrev rowPre (b2 b mb:Nat) (m:Mx) (tv:SV) (l:List (Int×Value)) (W:World):List Assn:=[blk b2 63 #[.pointer (some ⟨b,0,none⟩)],blk b 124 (mxC m mb tv).toArray,mapL mb .u32 l,old W]
theorem RowSort_S (b2 b mb:Nat) (m:Mx) (tv:SV) (l:List (Int×Value)) (hok:MxOk m) (hp:l.Perm (m.js.map jbE)) {W:World} (hW:TabW W) (s:SV) (ks:List Nat) (hl:ks.length<4611686018427387904) :
  Spec Tryz.prog 127 [s.v,.func (.func 128) #[] #[.pointer (some ⟨b2,0,none⟩)]] (own s 31 1 (idsV ks)::rowPre b2 b mb m tv l W) fun Γ _ Θ=>∃l':List Nat,l'.Perm ks∧l'.Pairwise (fun a b=>Go.Proofs.ltOf (cmpR m.js) b a=false)∧Θ=own s 31 1 (idsV l')::blk b2 63 #[.pointer (some ⟨b,0,none⟩)]::blk b 124 (mxC m mb tv).toArray::mapL mb .u32 l::old W::Γ:=
 SortFunc1_S Tryz.sort127 {Tryz.sort127 with} (fun j:Nat=>Value.int .u32 (j:Int)) (fun _=>rfl) (cmpR m.js) (cmpR_swo m.js) 128 [.pointer (some ⟨b2,0,none⟩)]
  (enters_of Tryz.func128 (by kernel_rfl) rfl) (rowPre b2 b mb m tv l W) (fun x y W1 Γ hs=>cmpR_P b2 b mb m tv l hok hp x y hW W1 Γ hs) 31 s ks hl
theorem Row_S (b:Nat) (m:Mx) (z:Int) {W:World} (hW:TabW W):Spec Tryz.prog 85 [.pointer (some ⟨b,0,none⟩),.int .i64 z] [MI b m,old W] fun Γ v Θ=>∃sv:SV,v=sv.v∧sv.n=(rowIds m z).length∧Θ=own sv 31 1 (idsV (rowIds m z))::MI b m::old W::Γ:=by
 refine Zbd Tryz.func85 rfl Tryz.ntmps85 fun w0 Γ=>Zsh ?_;refine ZY 2 ?_;refine Zp (S.box (cs:=[_]) rfl rfl rfl ?_);intro b2;refine ZY 7 ?_;refine Zp (Zcp Ze (row_S b m z) ?_);refine ZY 2 ?_
 refine Zi ef (fun h1=>?_) (fun h1=>?_)
 ·have hn:rowIds m z=[]:=by rw[rowIds,show rowB m z=false by simpa using h1];rfl
  refine ZY 5 ?_;refine S.ent (Δ:=own SV.nil 31 1 (idsV (rowIds m z))::MI b m::old W::Γ) (by rw[hn];exact Sub.ent.trans (Ent.ownNil _ _)) ?_;exact Zf ef Zq (⟨SV.nil,rfl,by rw[hn];rfl,rfl⟩)
 ·have hrb:rowB m z=true:=by simpa using h1
  obtain⟨r,rfl⟩:∃r:Nat,z=r:=⟨z.toNat,by have:=rowB_iff.1 hrb;omega⟩;have hn:rowIds m r=(rowJ m r).map (·.id):=by rw[rowIds,if_pos hrb,Int.toNat_natCast]
  refine S.miOpen b m fun mb tv l hok hp htn=>?_;have h128:=sum_lens m hok;obtain⟨jl0,hj0,hl0⟩:=perm_unmap hp rfl;have hll:l.length=m.js.length:=by rw[hp.length_eq,List.length_map]
  refine ZY 3 ?_;refine S.ent (Ent.ownNil 31 1) ?_;refine ZY 8 ?_;refine Zy ?_;refine Zp (S.range Tryz.underlying117 rfl rfl ?_);intro r16;refine ZY 2 ?_;refine Zl (fun k ρ' Γ'=>∃(left:List (Int×Value)) (cur:Option (Int×Value)) (jl dn:List Jb) (sv:SV) (dv:List Value),k=left.length∧left=jl.map jbE∧(dn++jl.filter fun x=>decide (x.row=r)).Perm (m.js.filter fun x=>decide (x.row=r))∧jl.length+dn.length≤m.js.length∧sv.n=dn.length∧dv=idsV (dn.map (·.id)) ∧   ρ'=[(1,.int .i64 (r:Int)),(2,.pointer (some ⟨b2,0,none⟩)),(5,sv.v),(16,.pointer (some ⟨r16,0,none⟩))]∧Γ'=rngM r16 mb .u32 l left cur::own sv 31 1 dv::blk b2 63 #[.pointer (some ⟨b,0,none⟩)]::blk b 124 (mxC m mb tv).toArray::own tv 119 1 (tks m)::old W::Γ) (m:=_) (⟨l,none,jl0,[],SV.nil,[],rfl,hl0,by simpa using hj0.filter _,by rw[hj0.length_eq];simp,rfl,rfl,rfl,rfl⟩) ?_;rintro k ρ' Γ' ⟨left,cur,jl,dn,sv,dv,hk,hleft,hdn,hlen,hsv,hdv,rfl,rfl⟩;refine ZY 2 ?_
  refine Zp (S.nextR rfl rfl (fun hl17=>?_) (fun i17 z17 v17 hi17=>?_))
  ·have hj:jl=[]:=List.map_eq_nil_iff.1 (hleft.symm.trans hl17);subst hj;rw[List.filter_nil,List.append_nil]at hdn;subst hdv;refine S.conv (rngM r16 mb .u32 l left cur) (Ent.rngM _) ?_;refine ZY 8 ?_;refine Zy ?_;refine Zp (Zc1 Ze (RowSort_S b2 b mb m tv l hok hp hW sv (dn.map (·.id)) (by simp;omega)) ?_);rintro v Θ ⟨l',hl1,hl2,rfl⟩;have hfin:=sorted_rowJ hok (r:=r) hl1 ((hdn.trans (filter_rowJ hok r)).map _) hl2;have hlen2:sv.n=(rowIds m r).length:=by rw[hn,←hfin,hl1.length_eq,List.length_map,hsv]
   rw[hfin,←hn];refine ZY 7 ?_;refine S.miClose (b:=b) (m:=m) (mb:=mb) (tv:=tv) rfl rfl rfl hok hp htn ?_;exact Zf ef Zq (⟨sv,rfl,hlen2,rfl⟩)
  ·obtain⟨x,hx,hxe⟩:∃x,jl[i17]?=some x∧jbE x=(z17,v17):=by
    rw[hleft,List.getElem?_map]at hi17;exact Option.map_eq_some_iff.1 hi17
   simp only[jbE,Prod.mk.injEq]at hxe;obtain⟨rfl,rfl⟩:=hxe;have hpe:=erase_perm hx;have hel:=hpe.length_eq;rw[List.length_cons]at hel;have hle:(left.eraseIdx i17)=(jl.eraseIdx i17).map jbE:=by rw[hleft,map_eraseIdx']
   have hlt:(left.eraseIdx i17).length<k:=by rw[hle,hk,hleft,List.length_map,List.length_map];omega
   refine ZY 8 ?_;refine Zv (q_entryR rfl) ?_;refine ZY 2 ?_;refine Zp (S.alloc Tryz.z121.h rfl ?_);intro b7;refine Zy ?_;refine Zp (Zs ef ef (cs':=[_,_]) ef ?_);refine ZY 8 ?_
   refine Zj ef (fun h3=>?_) (fun h3=>?_)
   ·have hxr:x.row=r:=by omega
    have h9:=hpe.filter (fun x=>decide (x.row=r));rw[List.filter_cons_of_pos (by simpa using hxr)]at h9
    have hdn2:((dn++[x])++(jl.eraseIdx i17).filter fun x=>decide (x.row=r)).Perm (m.js.filter fun x=>decide (x.row=r)):=by
     rw[List.append_assoc];exact(List.Perm.append_left dn h9.symm).trans hdn
    have hdl:(dn++[x]).length=dn.length+1:=by simp
    have hdv2:dv++[.int .u32 (x.id:Int)]=idsV ((dn++[x]).map (·.id)):=by rw[hdv];simp
    refine ZY 3 ?_;refine Zp (S.buildSlice (pvs:=[(_,_)]) [_] Tryz.underlying53 Tryz.inf31.h rfl rfl ⟨⟨rfl,rfl⟩,trivial⟩ rfl rfl ?_);intro b28;refine Zp (S.appendOw (s:=sv) (1) ([.int .u32 (x.id:Int)]) Tryz.underlying53 Tryz.inf31.h rfl rfl rfl (blk_slAt (b:=b28) rfl (by unfold maxLen;omega)) (by first | rfl | exact allOne_bcells _) (⟨by omega,by omega⟩) rfl ?_);intro s2 hs2;refine ZY 2 ?_;first | exact ZX (left.eraseIdx i17).length ⟨left.eraseIdx i17,some ((x.id:Int),jbV x),jl.eraseIdx i17,dn++[x],s2,_,rfl,hle,hdn2,by omega,by omega,hdv2,rfl,rfl⟩ hlt | exact ZX (left.eraseIdx i17).length ⟨left.eraseIdx i17,some ((x.id:Int),jbV x),jl.eraseIdx i17,dn,sv,dv,rfl,hle,hdn2,by omega,hsv,hdv,rfl,rfl⟩ hlt
   ·have hxr:¬x.row=r:=by omega
    have h9:=hpe.filter (fun x=>decide (x.row=r));rw[List.filter_cons_of_neg (by simpa using hxr)]at h9;have hdn2:=(List.Perm.append_left dn h9.symm).trans hdn;refine Zy ?_;first | exact ZX (left.eraseIdx i17).length ⟨left.eraseIdx i17,some ((x.id:Int),jbV x),jl.eraseIdx i17,dn++[x],s2,_,rfl,hle,hdn2,by omega,by omega,hdv2,rfl,rfl⟩ hlt | exact ZX (left.eraseIdx i17).length ⟨left.eraseIdx i17,some ((x.id:Int),jbV x),jl.eraseIdx i17,dn,sv,dv,rfl,hle,hdn2,by omega,hsv,hdv,rfl,rfl⟩ hlt
def atJ (js:List Jb) (r i:Nat):Nat:=((js.find? fun x=>decide (x.row=r)&&x.ns.getLsbD i).map (·.id)).getD 0
def atR (m:Mx) (z y:Int):Nat:=if rowB m z&&nodeB m y then atJ m.js z.toNat y.toNat else 0
theorem atJ_some {m:Mx} (hm:MxOk m) {r i:Nat} {x:Jb} (hx:x∈m.js) (h1:x.row=r) (h2:x.ns.getLsbD i=true):atJ m.js r i=x.id:=by
 unfold atJ;cases hf:m.js.find? fun x=>decide (x.row=r)&&x.ns.getLsbD i with
 | none=>
  have:=List.find?_eq_none.1 hf x hx;simp[h1,h2]at this
 | some y=>
  have h3:=List.mem_of_find?_eq_some hf;have h4:=List.find?_some hf;rw[Bool.and_eq_true,decide_eq_true_eq]at h4;refine Classical.byContradiction fun hne=>?_;exact hm.dis y h3 x hx hne (h4.1.trans h1.symm) i h4.2 h2
theorem atJ_none {js:List Jb} {r i:Nat} (h:∀x∈js,x.row=r→x.ns.getLsbD i=false):atJ js r i=0:=by
 unfold atJ
 rw[List.find?_eq_none.2 fun x hx=>?_]
 ·rfl
 ·by_cases e:x.row=r
  ·simp[h x hx e]
  ·simp[e]
theorem At_S (b:Nat) (m:Mx) (z y:Int):Spec Tryz.prog 115 [.pointer (some ⟨b,0,none⟩),.int .i64 z,.int .i64 y] [MI b m] fun Γ v Θ=>v=.int .u32 (atR m z y:Nat)∧Θ=MI b m::Γ:=by
 refine Zbd Tryz.func115 rfl Tryz.ntmps115 fun w0 Γ=>Zsh ?_;refine ZY 8 ?_;refine Zy ?_;refine Zp (Zcp Ze (row_S b m z) ?_);refine Zy ?_
 refine Zbb 12 ef (fun hg1_3=>?_) (fun hg1_3=>?_)
 ·refine ZY 2 ?_;refine Zg ef ef ef (Zcp Ze (node_S b m y) ?_);refine ZY 2 ?_
  refine Zi ef (fun h1=>?_) (fun h1=>?_)
  ·have hrr:=rowB_iff.1 hg1_3;have hnn:=nodeB_iff.1 h1;obtain⟨r,rfl⟩:∃r:Nat,z=r:=⟨z.toNat,by omega⟩;obtain⟨i,rfl⟩:∃i:Nat,y=i:=⟨y.toNat,by omega⟩;have hat:atR m r i=atJ m.js r i:=by rw[atR,hg1_3,h1];rfl
   refine S.miOpen b m fun mb tv l hok hp htn=>?_;have hN16:=hok.N16;obtain⟨jl0,hj0,hl0⟩:=perm_unmap hp rfl;refine ZY 6 ?_;refine Zp (S.range Tryz.underlying117 rfl rfl ?_);intro r21;refine ZY 2 ?_;refine Zl (fun k ρ' Γ'=>∃(left:List (Int×Value)) (cur:Option (Int×Value)) (jl:List Jb),k=left.length∧left=jl.map jbE∧(∀x∈jl,x∈m.js)∧(∀x∈m.js,x∈jl∨(x.row=r→x.ns.getLsbD i=false)) ∧   ρ'=[(1,.int .i64 (r:Int)),(2,.int .i64 (i:Int)),(21,.pointer (some ⟨r21,0,none⟩))]∧Γ'=rngM r21 mb .u32 l left cur::blk b 124 (mxC m mb tv).toArray::own tv 119 1 (tks m)::Γ) (m:=_) (⟨l,none,jl0,rfl,hl0,fun x hx=>hj0.mem_iff.1 hx,fun x hx=>.inl (hj0.mem_iff.2 hx),rfl,rfl⟩) ?_;rintro k ρ' Γ' ⟨left,cur,jl,hk,hleft,hsub,hall,rfl,rfl⟩;refine ZY 2 ?_
   refine Zp (S.nextR rfl rfl (fun hl22=>?_) (fun i22 z22 v22 hi22=>?_))
   ·have hj:jl=[]:=List.map_eq_nil_iff.1 (hleft.symm.trans hl22);subst hj;have hfin:atR m r i=0:=by rw[hat];exact atJ_none fun x hx=>(hall x hx).resolve_left (by simp)
    refine S.conv (rngM r21 mb .u32 l left cur) (Ent.rngM _) ?_;refine S.miClose (b:=b) (m:=m) (mb:=mb) (tv:=tv) rfl rfl rfl hok hp htn ?_;refine ZY 8 ?_;refine ZY 2 ?_;exact Zf ef Zq (⟨by rw[hfin];rfl,rfl⟩)
   ·obtain⟨x,hx,hxe⟩:∃x,jl[i22]?=some x∧jbE x=(z22,v22):=by
     rw[hleft,List.getElem?_map]at hi22;exact Option.map_eq_some_iff.1 hi22
    simp only[jbE,Prod.mk.injEq]at hxe;obtain⟨rfl,rfl⟩:=hxe;have hpe:=erase_perm hx;have hel:=hpe.length_eq;rw[List.length_cons]at hel;have hle:(left.eraseIdx i22)=(jl.eraseIdx i22).map jbE:=by rw[hleft,map_eraseIdx']
    have hlt:(left.eraseIdx i22).length<k:=by rw[hle,hk,hleft,List.length_map,List.length_map];omega
    have hxm:=hsub x (List.mem_of_getElem? hx);refine ZY 8 ?_;refine Zv (q_entryR rfl) ?_;refine ZY 2 ?_;refine Zp (S.alloc Tryz.z121.h rfl ?_);intro b8;refine Zy ?_;refine Zp (Zs ef ef (cs':=[_,_]) ef ?_);refine ZY 8 ?_
    refine Zb 31 ef (fun hg5_4=>?_) (fun hg5_4=>?_)
    ·refine ZY 3 ?_;refine Zg ef ef ef (Zcp Ze (has_S x.ns i i rfl (by omega)) ?_);refine ZY 2 ?_
     refine Zi ef (fun h3=>?_) (fun h3=>?_)
     ·have hfin:atR m r i=x.id:=by rw[hat];exact atJ_some hok hxm (by omega) h3
      refine S.conv (rngM r21 mb .u32 l (left.eraseIdx i22) (some ((x.id:Int),jbV x))) (Ent.rngM _) ?_;refine S.miClose (b:=b) (m:=m) (mb:=mb) (tv:=tv) rfl rfl rfl hok hp htn ?_;refine ZY 6 ?_;exact Zf ef Zq (⟨by rw[hfin];rfl,rfl⟩)
     ·refine Zy ?_
      have hall2:∀y∈m.js,y∈jl.eraseIdx i22∨(y.row=r→y.ns.getLsbD i=false):=fun y hy=>by
       rcases hall y hy with h9 | h9
       ·rcases List.mem_cons.1 (hpe.mem_iff.1 h9) with e9 | h9
        ·exact .inr fun e8=>by rw[e9]at e8 ⊢;first | exact h3 | exact absurd e8 (by omega)
        ·exact .inl h9
       ·exact .inr h9
      exact ZX ((left.eraseIdx i22).length) (⟨left.eraseIdx i22,some ((x.id:Int),jbV x),jl.eraseIdx i22,rfl,hle,fun y hy=>hsub y (hpe.mem_iff.2 (List.mem_cons_of_mem _ hy)),hall2,rfl,rfl⟩) (hlt)
    ·refine ZY 8 ?_
     have hall2:∀y∈m.js,y∈jl.eraseIdx i22∨(y.row=r→y.ns.getLsbD i=false):=fun y hy=>by
      rcases hall y hy with h9 | h9
      ·rcases List.mem_cons.1 (hpe.mem_iff.1 h9) with e9 | h9
       ·exact .inr fun e8=>by rw[e9]at e8 ⊢;first | exact h3 | exact absurd e8 (by omega)
       ·exact .inl h9
      ·exact .inr h9
     exact ZX ((left.eraseIdx i22).length) (⟨left.eraseIdx i22,some ((x.id:Int),jbV x),jl.eraseIdx i22,rfl,hle,fun y hy=>hsub y (hpe.mem_iff.2 (List.mem_cons_of_mem _ hy)),hall2,rfl,rfl⟩) (hlt)
  ·have hfin:atR m z y=0:=by rw[atR,h1,Bool.and_false];rfl
   refine ZY 6 ?_;exact Zf ef Zq (⟨by rw[hfin];rfl,rfl⟩)
 ·have hfin:atR m z y=0:=by rw[atR,hg1_3];rfl
  refine ZY 8 ?_;refine ZY 4 ?_;exact Zf ef Zq (⟨by rw[hfin];rfl,rfl⟩)
set_option maxHeartbeats 1000000 in
theorem mapsClone_S (mb:Nat) (l:List (Int×Value)):Spec Tryz.prog 98 [.map (some mb)] [mapL mb .u32 l] fun Γ v Θ=>∃c,v=.map (some c)∧Θ=mapL c .u32 l::mapL mb .u32 l::Γ:=by
 refine Zbd Tryz.func98 rfl Tryz.ntmps98 fun w0 Γ=>Zsh ?_;refine ZY 8 ?_;refine Zv (q_eqMN Tryz.underlying117 rfl rfl) ?_;refine Zy ?_;refine ZF ef ?_;refine ZY 4 ?_;refine Zv (q_makeInterface (by rw[Tryz.underlying117]) rfl) ?_;refine Zp (S.clone Tryz.func135 (by kernel_rfl) (by kernel_rfl) (by kernel_rfl) (by kernel_rfl) rfl rfl ?_);intro c;refine Zv (q_assert Tryz.underlying117 rfl) ?_;refine ZY 3 ?_;exact Zf ef Zq (⟨c,rfl,rfl⟩)
theorem setsClone_S (s:SV) (xs:List Value) (hone:allOne xs=true) (hs:s.n≤1000∧0<s.n):Spec Tryz.prog 99 [s.v] [own s 119 1 xs] fun Γ v Θ=>∃s2:SV,v=s2.v∧s2.n=s.n∧Θ=own s2 119 1 xs::own s 119 1 xs::Γ:=by
 refine Zbd Tryz.func99 rfl Tryz.ntmps99 fun w0 Γ=>Zsh ?_;refine S.ownSome s hs.2 fun sb so hsa hl1 hl2 hl3=>?_;refine ZY 8 ?_;refine ZY 2 ?_
 refine Zi ef (fun h1=>?_) (fun h1=>?_)
 ·rw[hsa]at h1;cases h1
 ·refine ZY 3 ?_;refine Zp (S.buildSlice0 Tryz.underlying122 Tryz.inf119.h rfl ?_);intro s5 hs5;refine Zy ?_;refine Zp (S.appendOw (s:=s5) (s.n) (xs) Tryz.underlying122 Tryz.inf119.h rfl rfl rfl (fun w hs=>(HasOw.head).slAt (hs.ent (Ent.drop _ _))) (hone) (⟨by omega,by omega⟩) rfl ?_);intro s2 hs2;rw[List.nil_append];refine ZY 3 ?_;exact Zf ef Zq (⟨s2,rfl,by omega,rfl⟩)
theorem tks_one (m:Mx):allOne (tks m)=true:=List.all_eq_true.2 fun v hv=>by
 obtain⟨r,_,rfl⟩:=List.mem_map.1 hv;rfl
theorem Copy_S (b:Nat) (m:Mx):Spec Tryz.prog 60 [.pointer (some ⟨b,0,none⟩)] [MI b m] fun Γ v Θ=>∃c,v=.pointer (some ⟨c,0,none⟩)∧Θ=MI c m::MI b m::Γ:=by
 refine Zbd Tryz.func60 rfl Tryz.ntmps60 fun w0 Γ=>Zsh ?_;refine S.miOpen b m fun mb tv l hok hp htn=>?_;have hR8:=hok.R8;have hR1:=hok.R1;refine ZY 8 ?_;refine ZY 2 ?_;refine ZF ef ?_;refine ZY 6 ?_;refine Zp (S.alloc Tryz.z124.h rfl ?_);intro b3;refine Zp (Zs ef ef (cs':=[_,_,_,_,_]) ef ?_);refine ZY 2 ?_;refine Zd ([blk b 124 (mxC m mb tv).toArray]) [11,13] [0,1,2,3,5,6,7,8] ?_;refine ZY 8 ?_;refine Z1 (i:=4) ef ef ?_;refine  (Zc1 Ze (mapsClone_S mb l) ?_);rintro v Θ ⟨mc,rfl,rfl⟩;refine Zk [] ?_;refine Z1 (i:=9) ef ef ?_;refine  (Zc1 Ze (setsClone_S tv (tks m) (tks_one m) ⟨by omega,by omega⟩) ?_);rintro v Θ ⟨s2,rfl,hs2,rfl⟩;refine Zk [10] ?_;refine Zy ?_;refine Z1 (i:=11) ef ef ?_;refine(S.store (cs':=[_,_,_,_,_]) Eo.h rfl rfl rfl rfl rfl ?_);refine ZL ([blk b 124 (mxC m mb tv).toArray]) [12] ?_;refine Zy ?_;refine Z1 (i:=13) ef ef ?_;refine(S.store (cs':=[_,_,_,_,_]) Eo.h rfl rfl rfl rfl rfl ?_);refine Zk [] ?_;refine ZD ?_;refine ZY 5 ?_;refine S.miClose (b:=b) (m:=m) (mb:=mb) (tv:=tv) rfl rfl rfl hok hp htn ?_;refine S.miClose (b:=b3) (m:=m) (mb:=mc) (tv:=s2) rfl rfl rfl hok hp (by omega) ?_;exact Zf ef Zq (⟨b3,rfl,rfl⟩)
def fillStep (a:Bs×List Jb) (x:Jb):Bs×List Jb:=if x.ns &&& a.1=0#16 then (a.1 ||| x.ns,a.2++[x]) else a
def fillUp (m:Mx) (r:Nat):Nat→Bs×List Jb
 | 0=>(tk m.js r,[])
 | o+1=>if o=r then fillUp m r o else (rowJ m o).foldl fillStep (fillUp m r o)
def fillIds (m:Mx) (z:Int):List Nat:=if rowB m z then (fillUp m z.toNat m.R).2.map (·.id) else []
theorem rowJ_len (m:Mx) (r:Nat):(rowJ m r).length≤16:=by
 have:=List.length_filterMap_le (fun i=>m.js.find? fun x=>decide (x.row=r)&&decide (tz x.ns=i)) (List.range 16);rw[List.length_range]at this;exact this
theorem fold_len (l:List Jb):∀a:Bs×List Jb,(l.foldl fillStep a).2.length≤a.2.length+l.length:=by
 induction l with
 | nil=>intro a;exact Nat.le_refl _
 | cons x l ih=>
  intro a;have h1:=ih (fillStep a x)
  have h2:(fillStep a x).2.length≤a.2.length+1:=by
   unfold fillStep
   split
   ·simp
   ·omega
  rw[List.foldl_cons,List.length_cons];omega
theorem fillUp_len (m:Mx) (r:Nat):∀o,(fillUp m r o).2.length≤16*o
 | 0=>Nat.le_refl _
 | o+1=>by
  have h:=fillUp_len m r o;unfold fillUp
  split
  ·omega
  ·have h1:=fold_len (rowJ m o) (fillUp m r o);have h2:=rowJ_len m o;omega
theorem idsV_at {js:List Jb} {q:Nat} {x:Jb} (h:js[q]?=some x):(idsV (js.map (·.id)))[q]?=some (.int .u32 (x.id:Int)):=by
 show ((js.map (·.id)).map _)[q]?=_;rw[List.getElem?_map,List.getElem?_map,h];rfl
theorem Fill_S (b:Nat) (m:Mx) (z:Int) {W:World} (hW:TabW W):Spec Tryz.prog 91 [.pointer (some ⟨b,0,none⟩),.int .i64 z] [MI b m,old W] fun Γ v Θ=>∃sv:SV,v=sv.v∧sv.n=(fillIds m z).length∧Θ=own sv 31 1 (idsV (fillIds m z))::MI b m::old W::Γ:=by
 refine Spec.miOk fun hok=>?_;refine Zbd Tryz.func91 rfl Tryz.ntmps91 fun w0 Γ=>Zsh ?_;have hR8:=hok.R8;refine ZY 8 ?_;refine Zy ?_;refine Zp (Zcp Ze (row_S b m z) ?_);refine ZY 2 ?_
 refine Zi ef (fun h1=>?_) (fun h1=>?_)
 ·have hn:fillIds m z=[]:=by rw[fillIds,show rowB m z=false by simpa using h1];rfl
  refine ZY 5 ?_;refine S.ent (Δ:=own SV.nil 31 1 (idsV (fillIds m z))::MI b m::old W::Γ) (by rw[hn];exact Ent.ownNil _ _) ?_;exact Zf ef Zq (⟨SV.nil,rfl,by rw[hn];rfl,rfl⟩)
 ·have hrb:rowB m z=true:=by simpa using h1
  have hrr:=rowB_iff.1 hrb;obtain⟨r,rfl⟩:∃r:Nat,z=r:=⟨z.toNat,by omega⟩;have hn:fillIds m r=(fillUp m r m.R).2.map (·.id):=by rw[fillIds,if_pos hrb,Int.toNat_natCast]
  refine S.miOpen b m fun mb tv l _ hp htn=>?_;refine S.ownSome tv (by omega) fun tb tf hta hl1 hl2 hl3=>?_;refine ZY 8 ?_;refine ZY 4 ?_;refine Zv (Zx (r) ef (hta) ef (by omega)) ?_;refine Zv (Zo (tv) (r) ef (hta) (tks_get (show r<m.R by omega))) ?_;refine ZY 8 ?_;refine Zy ?_;refine S.miClose (b:=b) (m:=m) (mb:=mb) (tv:=tv) rfl rfl rfl hok hp htn ?_;refine S.ent (Ent.ownNil 31 1) ?_;refine ZY 3 ?_;refine Zl (fun k ρ' Γ'=>∃(o:Nat) (tn:Bs) (out:List Jb) (sv:SV) (dv:List Value),k=m.R-o∧o≤m.R∧fillUp m r o=(tn,out)∧sv.n=out.length∧dv=idsV (out.map (·.id)) ∧   ρ'=[(0,.pointer (some ⟨b,0,none⟩)),(1,.int .i64 (r:Int)),(5,sv.v),(6,bsv tn),(25,.int .i64 (m.R:Int)),(26,.int .i64 (o:Int))]∧Γ'=own sv 31 1 dv::MI b m::old W::Γ) (m:=_) (⟨0,tk m.js r,[],SV.nil,[],rfl,by omega,rfl,rfl,rfl,rfl,rfl⟩) ?_;rintro k ρ' Γ' ⟨o,tn,out,sv,dv,hk,hoR,hfu,hsv,hdv,rfl,rfl⟩;have hol:=fillUp_len m r o;rw[hfu]at hol;simp only at hol;refine ZY 2 ?_
  skip
  refine ZY 3 ?_
  refine Zj ef (fun h2=>?_) (fun h2=>?_)
  ·refine ZY 8 ?_;refine ZY 7 ?_
   refine Zj ef (fun h3=>?_) (fun h3=>?_)
   ·have hor:o=r:=by omega
    have hfu2:fillUp m r (o+1)=(tn,out):=by rw[fillUp,if_pos hor];exact hfu
    refine ZY 2 ?_;refine Zv (Za ef ef) ?_;refine ZY 2 ?_;first | exact ZX (k-1) ⟨o+1,tn,out,sv,dv,by omega,by omega,hfu2,hsv,hdv,rfl,rfl⟩ (by omega) | exact ZX (k-1) ⟨o+1,tn2,out2,s2,dv2,by omega,by omega,hfu2.trans hfo,hs2,hdv2,rfl,rfl⟩ (by omega)
   ·have hor:¬o=r:=by omega
    have hfu2:fillUp m r (o+1)=(rowJ m o).foldl fillStep (tn,out):=by rw[fillUp,if_neg hor,hfu]
    refine ZY 5 ?_;refine Zp (Zc1 Ze (Row_S b m o hW) ?_);rintro v Θ ⟨rv,rfl,hrv,rfl⟩;have hro:rowIds m o=(rowJ m o).map (·.id):=by rw[rowIds,if_pos (rowB_iff.2 (by omega)),Int.toNat_natCast]
    rw[hro]at hrv ⊢;rw[List.length_map]at hrv;have hj16:=rowJ_len m o;refine S.miOpen b m fun mb tv l _ hp htn=>?_;refine S.ownLen rv fun hrl1 hrl2 hrl3=>?_;refine ZY 4 ?_;refine Zl (fun k2 ρ' Γ'=>∃(q:Nat) (tn2:Bs) (out2:List Jb) (s2:SV) (dv2:List Value),k2=(rowJ m o).length-q∧q≤(rowJ m o).length∧((rowJ m o).take q).foldl fillStep (tn,out)=(tn2,out2)∧s2.n=out2.length∧dv2=idsV (out2.map (·.id)) ∧   ρ'=[(0,.pointer (some ⟨b,0,none⟩)),(1,.int .i64 (r:Int)),(5,s2.v),(6,bsv tn2),(25,.int .i64 (m.R:Int)),(26,.int .i64 (o:Int)),(34,rv.v),(35,.int .i64 rv.n),(36,.int .i64 (q:Int))] ∧   Γ'=own s2 31 1 dv2::own rv 31 1 (idsV ((rowJ m o).map (·.id)))::blk b 124 (mxC m mb tv).toArray::mapL mb .u32 l::own tv 119 1 (tks m)::old W::Γ) (m:=_) (⟨0,tn,out,sv,dv,rfl,by omega,rfl,hsv,hdv,rfl,rfl⟩) ?_;rintro k2 ρ' Γ' ⟨q,tn2,out2,s2,dv2,hk2,hq,hfo,hs2,hdv2,rfl,rfl⟩;have hfl:=fold_len ((rowJ m o).take q) (tn,out);rw[hfo]at hfl;rw[List.length_take]at hfl;simp only at hfl;refine ZY 5 ?_
    refine Zj ef (fun h4=>?_) (fun h4=>?_)
    ·obtain⟨x,hx⟩:=getE (show q<(rowJ m o).length by omega);have hxm:=((mem_rowJ hok).1 (List.mem_of_getElem? hx)).1;refine S.ownSome rv (by omega) fun rb rf hra _ _ _=>?_;have hgx:alGet (x.id:Int) l=some (jbV x):=by rw[get_look hok.srt hp,look_mem hok.srt hxm];rfl
     have hstep:((rowJ m o).take (q+1)).foldl fillStep (tn,out)=fillStep (tn2,out2) x:=by rw[List.take_add_one,hx,List.foldl_append,hfo];rfl
     refine ZY 5 ?_;refine Zv (Zx (q) ef (hra) ef (by omega)) ?_;refine Zv (Zo (rv) (q) ef (hra) (idsV_at hx)) ?_;refine ZY 8 ?_;refine Zy ?_;refine Zv (q_lookup1 (jbV x) Tryz.underlying117 Tryz.underlying31 Tryz.zv121.h rfl rfl rfl (by rw[hgx];rfl)) ?_;refine Zp (S.alloc Tryz.z121.h rfl ?_);intro b10;refine Zp (Zs ef ef (cs':=[_,_]) ef ?_);refine ZY 6 ?_;refine Zv (q_andB (x.ns) (tn2) rfl rfl (rfl) (rfl)) ?_;refine ZY 2 ?_
     refine Zj ef (fun h5=>?_) (fun h5=>?_)
     ·have hz:x.ns &&& tn2=0#16:=bs_zero.1 h5;have hfs:fillStep (tn2,out2) x=(tn2 ||| x.ns,out2++[x]):=if_pos hz;have hdv3:dv2++[.int .u32 (x.id:Int)]=idsV ((out2++[x]).map (·.id)):=by rw[hdv2];simp
      have hlen3:(out2++[x]).length=out2.length+1:=by simp
      refine ZY 5 ?_;refine Zv (q_orB (tn2) (x.ns) rfl rfl (rfl) (rfl)) ?_;refine ZY 5 ?_;refine Zp (S.buildSlice (pvs:=[(_,_)]) [_] Tryz.underlying53 Tryz.inf31.h rfl rfl ⟨⟨rfl,rfl⟩,trivial⟩ rfl rfl ?_);intro b57;refine Zp (S.appendOw (s:=s2) (1) ([.int .u32 (x.id:Int)]) Tryz.underlying53 Tryz.inf31.h rfl rfl rfl (blk_slAt (b:=b57) rfl (by unfold maxLen;omega)) (by first | rfl | exact allOne_bcells _) (⟨by omega,by omega⟩) rfl ?_);intro s3 hs3;refine ZY 3 ?_;refine Zv (Za ef ef) ?_;refine ZY 2 ?_;first | exact ZX (k2-1) ⟨q+1,tn2 ||| x.ns,out2++[x],s3,dv2++[.int .u32 (x.id:Int)],by omega,by omega,hstep.trans hfs,by omega,hdv3,rfl,rfl⟩ (by omega) | exact ZX (k2-1) ⟨q+1,tn2,out2,s2,dv2,by omega,by omega,hstep.trans hfs,hs2,hdv2,rfl,rfl⟩ (by omega)
     ·have hz:¬x.ns &&& tn2=0#16:=fun e=>h5 (bs_zero.2 e);have hfs:fillStep (tn2,out2) x=(tn2,out2):=if_neg hz;refine ZY 2 ?_;refine Zv (Za ef ef) ?_;refine ZY 2 ?_;first | exact ZX (k2-1) ⟨q+1,tn2 ||| x.ns,out2++[x],s3,dv2++[.int .u32 (x.id:Int)],by omega,by omega,hstep.trans hfs,by omega,hdv3,rfl,rfl⟩ (by omega) | exact ZX (k2-1) ⟨q+1,tn2,out2,s2,dv2,by omega,by omega,hstep.trans hfs,hs2,hdv2,rfl,rfl⟩ (by omega)
    ·have hq2:q=(rowJ m o).length:=by omega
     rw[hq2,List.take_length]at hfo;refine S.miClose (b:=b) (m:=m) (mb:=mb) (tv:=tv) rfl rfl rfl hok hp htn ?_;refine ZY 2 ?_;refine Zv (Za ef ef) ?_;refine ZY 2 ?_;first | exact ZX (k-1) ⟨o+1,tn,out,sv,dv,by omega,by omega,hfu2,hsv,hdv,rfl,rfl⟩ (by omega) | exact ZX (k-1) ⟨o+1,tn2,out2,s2,dv2,by omega,by omega,hfu2.trans hfo,hs2,hdv2,rfl,rfl⟩ (by omega)
  ·have hoR2:o=m.R:=by omega
   have hfin:fillIds m r=out.map (·.id):=by rw[hn,←hoR2,hfu]
   rw[hdv,←hfin];refine ZY 7 ?_;exact Zf ef Zq (⟨sv,rfl,by rw[hfin,List.length_map];exact hsv,rfl⟩)
theorem rdBlk {b:Nat} {e:TypeId} {cs:List Value} {m sz:Nat} (hl:cs.length=m*sz) (hm:m≤maxLen):RdS (blk b e cs.toArray) ⟨some ⟨b,0,none⟩,m,m⟩ m sz cs:=fun Γ w hs=>blk_slAt (b:=b) (Γ:=blk b e cs.toArray::Γ) hl hm w hs
abbrev Cd:=Nat×Int
abbrev cdC (x:Cd):List Value:=[.int .u32 (x.1:Int),.int .u8 x.2]
theorem cdC_len:∀x,(cdC x).length=2:=fun _=>rfl
def cmpI (a b:Int):Int:=if a<b then -1 else if b<a then 1 else 0
theorem isNaN8_P (x:Int) (W:World):PureS Tryz.prog 201 [.int .u8 x] W (.bool false):=by
 refine Zbd Tryz.func201 rfl Tryz.ntmps201 fun w0 Γ=>Zsh ?_;refine ZY 8 ?_;refine ZY 4 ?_;exact Zf ef Zq (⟨by simp only[resV];rw[decide_eq_false (fun h=>h rfl)],rfl⟩)
theorem isNaN32_P (x:Int) (W:World):PureS Tryz.prog 192 [.int .u32 x] W (.bool false):=by
 refine Zbd Tryz.func192 rfl Tryz.ntmps192 fun w0 Γ=>Zsh ?_;refine ZY 8 ?_;refine ZY 4 ?_;exact Zf ef Zq (⟨by simp only[resV];rw[decide_eq_false (fun h=>h rfl)],rfl⟩)
theorem isNaN64_S (x:Int):Spec Tryz.prog 152 [.int .i64 x] [] fun Γ v Θ=>v=.bool false∧Θ=Γ:=by
 refine Zbd Tryz.func152 rfl Tryz.ntmps152 fun w0 Γ=>Zsh ?_;refine ZY 8 ?_;refine ZY 4 ?_;exact Zf ef Zq (⟨by simp only[resV];rw[decide_eq_false (fun h=>h rfl)],rfl⟩)
theorem Compare8_P (x y:Int) (W:World):PureS Tryz.prog 170 [.int .u8 x,.int .u8 y] W (.int .i64 (cmpI x y)):=by
 refine Zbd Tryz.func170 rfl Tryz.ntmps170 fun w0 Γ=>Zsh ?_;refine ZY 7 ?_;refine Zp (S.callP Eo.h (vs:=[_]) ⟨rfl,trivial⟩ (fun w hs=>isNaN8_P x w) rfl ?_);refine ZY 5 ?_;refine Zp (S.callP Eo.h (vs:=[_]) ⟨rfl,trivial⟩ (fun w hs=>isNaN8_P y w) rfl ?_);refine ZY 7 ?_;refine ZF ef ?_;refine ZY 6 ?_;refine ZF ef ?_;refine ZY 8 ?_
 refine Zj ef (fun h4=>?_) (fun h4=>?_)
 ·refine ZY 5 ?_;exact Zf ef Zq (⟨by simp only[resV,cmpI];rw[if_pos (by assumption)],rfl⟩)
 ·refine ZY 8 ?_
  refine Zj ef (fun h5=>?_) (fun h5=>?_)
  ·refine ZY 5 ?_;exact Zf ef Zq (⟨by simp only[resV,cmpI];rw[if_neg (by assumption),if_pos (by assumption)],rfl⟩)
  ·refine ZY 6 ?_;exact Zf ef Zq (⟨by simp only[resV,cmpI];rw[if_neg (by assumption),if_neg (by assumption)],rfl⟩)
theorem Compare32_P (x y:Int) (W:World):PureS Tryz.prog 171 [.int .u32 x,.int .u32 y] W (.int .i64 (cmpI x y)):=by
 refine Zbd Tryz.func171 rfl Tryz.ntmps171 fun w0 Γ=>Zsh ?_;refine ZY 7 ?_;refine Zp (S.callP Eo.h (vs:=[_]) ⟨rfl,trivial⟩ (fun w hs=>isNaN32_P x w) rfl ?_);refine ZY 5 ?_;refine Zp (S.callP Eo.h (vs:=[_]) ⟨rfl,trivial⟩ (fun w hs=>isNaN32_P y w) rfl ?_);refine ZY 7 ?_;refine ZF ef ?_;refine ZY 6 ?_;refine ZF ef ?_;refine ZY 8 ?_
 refine Zj ef (fun h4=>?_) (fun h4=>?_)
 ·refine ZY 5 ?_;exact Zf ef Zq (⟨by simp only[resV,cmpI];rw[if_pos (by assumption)],rfl⟩)
 ·refine ZY 8 ?_
  refine Zj ef (fun h5=>?_) (fun h5=>?_)
  ·refine ZY 5 ?_;exact Zf ef Zq (⟨by simp only[resV,cmpI];rw[if_neg (by assumption),if_pos (by assumption)],rfl⟩)
  ·refine ZY 6 ?_;exact Zf ef Zq (⟨by simp only[resV,cmpI];rw[if_neg (by assumption),if_neg (by assumption)],rfl⟩)
theorem Compare64_S (x y:Int):Spec Tryz.prog 122 [.int .i64 x,.int .i64 y] [] fun Γ v Θ=>v=.int .i64 (cmpI x y)∧Θ=Γ:=by
 refine Zbd Tryz.func122 rfl Tryz.ntmps122 fun w0 Γ=>Zsh ?_;refine ZY 7 ?_;refine Zp (Zcp Ze (isNaN64_S x) ?_);refine ZY 5 ?_;refine Zp (Zcp Ze (isNaN64_S y) ?_);refine ZY 7 ?_;refine ZF ef ?_;refine ZY 6 ?_;refine ZF ef ?_;refine ZY 8 ?_
 refine Zj ef (fun h4=>?_) (fun h4=>?_)
 ·refine ZY 5 ?_;exact Zf ef Zq (⟨by simp only[resV,cmpI];rw[if_pos (by assumption)],rfl⟩)
 ·refine ZY 8 ?_
  refine Zj ef (fun h5=>?_) (fun h5=>?_)
  ·refine ZY 5 ?_;exact Zf ef Zq (⟨by simp only[resV,cmpI];rw[if_neg (by assumption),if_pos (by assumption)],rfl⟩)
  ·refine ZY 6 ?_;exact Zf ef Zq (⟨by simp only[resV,cmpI];rw[if_neg (by assumption),if_neg (by assumption)],rfl⟩)
def orI:List Int→Int
 | []=>0
 | x::l=>if x≠0 then x else orI l
theorem Or_P (s:SV) (l:List Int) (W:World) (hn:s.n=l.length) (h0:SlAt W s.v l.length 1 (ints l)):PureS Tryz.prog 121 [s.v] W (.int .i64 (orI l)):=by
 have hm0:=slAt_cap h0;unfold maxLen at hm0;refine Zbd Tryz.func121 rfl Tryz.ntmps121 fun w0 Γ=>Zsh ?_;refine ZY 8 ?_;refine ZY 8 ?_;refine Zl (fun m ρ' Γ'=>∃k:Nat,m+k=l.length∧orI l=orI (l.drop k)∧ρ'=[(3,.int .i64 0),(6,s.v),(7,.int .i64 s.n),(8,.int .i64 k)]∧Γ'=old W::Γ) (m:=_) (⟨0,rfl,rfl,rfl,rfl⟩) ?_;rintro m ρ' Γ' ⟨k,hmk,hor,rfl,rfl⟩;refine ZY 5 ?_
 refine Zj ef (fun h1=>?_) (fun h1=>?_)
 ·obtain⟨x,hx⟩:=getE (l:=l) (i:=k) (by omega);obtain⟨b,off,hb,hcell⟩:=slAt_some h0 (by omega)
  have hxd:l.drop k=x::l.drop (k+1):=by
   have hkl:=(List.getElem?_eq_some_iff.1 hx);rw[List.drop_eq_getElem_cons hkl.1,hkl.2]
  refine ZY 5 ?_;refine Zv (Zx (k) ef (hb) ef (by omega)) ?_;refine Zv (q_loadW Eo.h rfl (hcell _ _ (by rw[Nat.mul_one,List.getElem?_map,hx];rfl))) ?_;refine ZY 8 ?_
  refine Zj ef (fun h2=>?_) (fun h2=>?_)
  ·refine ZY 6 ?_;exact Zf ef Zq (⟨by simp only[resV];rw[hor,hxd,orI,if_pos (by assumption)],rfl⟩)
  ·refine ZY 2 ?_;refine Zv (Za ef ef) ?_;refine ZY 2 ?_;exact ZX (m-1) (⟨k+1,by omega,by rw[hor,hxd,orI,if_neg (by assumption)],rfl,rfl⟩) (by omega)
 ·refine ZY 7 ?_;exact Zf ef Zq (⟨by simp only[resV];rw[hor,List.drop_eq_nil_of_le (by omega),orI],rfl⟩)
theorem Or_S (R:Assn) (s:SV) (l:List Int) (hn:s.n=l.length) (hR:RdS R s s.n 1 (ints l)):Spec Tryz.prog 121 [s.v] [R] fun Γ v Θ=>v=.int .i64 (orI l)∧Θ=R::Γ:=by
 refine Zbd Tryz.func121 rfl Tryz.ntmps121 fun w0 Γ=>Zsh ?_;refine S.rCap hR fun _ hc1 hc2=>?_;refine ZY 8 ?_;refine ZY 8 ?_;refine Zl (fun m ρ' Γ'=>∃k:Nat,m+k=l.length∧orI l=orI (l.drop k)∧ρ'=[(3,.int .i64 0),(6,s.v),(7,.int .i64 s.n),(8,.int .i64 k)]∧Γ'=R::Γ) (m:=_) (⟨0,rfl,rfl,rfl,rfl⟩) ?_;rintro m ρ' Γ' ⟨k,hmk,hor,rfl,rfl⟩;refine ZY 5 ?_
 refine Zj ef (fun h1=>?_) (fun h1=>?_)
 ·obtain⟨x,hx⟩:=getE (l:=l) (i:=k) (by omega);refine S.rSome hR (by omega) fun sb so hsa=>?_
  have hxd:l.drop k=x::l.drop (k+1):=by
   have hkl:=(List.getElem?_eq_some_iff.1 hx);rw[List.drop_eq_getElem_cons hkl.1,hkl.2]
  refine ZY 5 ?_;refine Zv (Zx (k) ef (hsa) ef (by omega)) ?_;refine Zv (q_loadR hR k Eo.h rfl hsa (by omega) (by omega) (ints_get hx)) ?_;refine ZY 8 ?_
  refine Zj ef (fun h2=>?_) (fun h2=>?_)
  ·refine ZY 6 ?_;exact Zf ef Zq (⟨by simp only[resV];rw[hor,hxd,orI,if_pos (by assumption)],rfl⟩)
  ·refine ZY 2 ?_;refine Zv (Za ef ef) ?_;refine ZY 2 ?_;exact ZX (m-1) (⟨k+1,by omega,by rw[hor,hxd,orI,if_neg (by assumption)],rfl,rfl⟩) (by omega)
 ·refine ZY 7 ?_;exact Zf ef Zq (⟨by simp only[resV];rw[hor,List.drop_eq_nil_of_le (by omega),orI],rfl⟩)
def ordC (a b:Cd):Int:=orI [cmpI a.2 b.2,cmpI (b.1:Int) (a.1:Int)]
def bfC (a b:Cd):Bool:=decide (a.2<b.2∨(a.2=b.2∧b.1<a.1))
theorem ltC (a b:Cd):Go.Proofs.ltOf ordC a b=bfC a b:=by
 show decide (ordC a b<0)=bfC a b;unfold ordC orI orI orI cmpI bfC;refine decide_eq_decide.2 ?_;split <;> split <;> (try split) <;> (try split) <;> (try split) <;> omega
theorem swoC:Go.Sort.SWO (Go.Proofs.ltOf ordC) where
 irrefl x:=by rw[ltC];exact decide_eq_false (by omega)
 trans x y z h1 h2:=by
  rw[ltC]at *;simp only[bfC,decide_eq_true_eq]at *;omega
 ntrans x y z h1 h2:=by
  rw[ltC]at *;simp only[bfC,decide_eq_false_iff_not]at *;omega
theorem order_P (x y:Cd) (W:World):PureS Tryz.prog 178 [.agg (cdC x).toArray,.agg (cdC y).toArray] W (.int .i64 (ordC x y)):=by
 refine Zbd Tryz.func178 rfl Tryz.ntmps178 fun w0 Γ=>Zsh ?_;refine ZY 2 ?_;refine Zp (S.box (cs:=[_,_]) rfl rfl rfl ?_);intro b2;refine Zp (S.box (cs:=[_,_]) rfl rfl rfl ?_);intro b3;refine ZY 3 ?_;refine Zd ([blk b2 152 (cdC x).toArray,blk b3 152 (cdC y).toArray]) [] [0,1,2,3,5,6,7,8] ?_;refine ZY 8 ?_;refine Z1 (i:=4) ef ef ?_;refine(S.callP Eo.h (vs:=[_,_]) ⟨rfl,rfl,trivial⟩ (fun w hs=>Compare8_P x.2 y.2 w) rfl ?_);refine Zk [] ?_;refine Z1 (i:=9) ef ef ?_;refine(S.callP Eo.h (vs:=[_,_]) ⟨rfl,rfl,trivial⟩ (fun w hs=>Compare32_P (y.1:Int) (x.1:Int) w) rfl ?_);refine Zk [] ?_;refine Z1 (i:=10) ef ef ?_;refine(S.buildSlice (pvs:=[(_,_),(_,_)]) [_,_] Tryz.underlying66 Tryz.inf3.h rfl rfl ⟨⟨rfl,rfl⟩,⟨rfl,rfl⟩,trivial⟩ rfl rfl ?_);intro b15;refine Zk [] ?_;refine Z1 (i:=11) ef ef ?_;refine(S.callP Eo.h (vs:=[_]) ⟨rfl,trivial⟩ (fun w hs=>Or_P ⟨some ⟨b15,0,none⟩,2,2⟩ [cmpI x.2 y.2,cmpI (y.1:Int) (x.1:Int)] w rfl (blk_slAt (b:=b15) rfl (show 2≤maxLen by unfold maxLen;omega) w hs)) rfl ?_);refine Zk [12] ?_;refine Zy ?_;refine ZD ?_;refine Zy ?_;exact Zf ef Zq (⟨rfl,rfl⟩)
theorem SortC_S (s:SV) (l:List Cd) (hl:l.length≤1000000):Spec Tryz.prog 177 [s.v,.func (.func 178) #[] #[]] [own s 152 2 (l.flatMap cdC)] fun Γ _ Θ=>
  ∃l':List Cd,l'.Perm l∧l'.Pairwise (fun a b=>bfC b a=false)∧Θ=own s 152 2 (l'.flatMap cdC)::Γ:=by
 have h:=SortFunc_S Tryz.sort177 2 Tryz.isAgg152 Tryz.sizeOf152 cdC cdC_len (by omega) (fun x v hv=>by simp only[cdC,List.mem_cons,List.not_mem_nil,or_false]at hv;rcases hv with rfl | rfl <;> rfl) ordC swoC 178 (enters_of Tryz.func178 (by kernel_rfl) rfl) order_P 152 s l (by omega);simp only[ltC]at h;exact h
def srtC (l:List Cd):List Cd:=l.mergeSort fun a b=>!bfC b a
theorem srtC_perm (l:List Cd):(srtC l).Perm l:=List.mergeSort_perm _ _
theorem srtC_eq {l l':List Cd} (hnd:l.Pairwise (fun a b=>a.1≠b.1)) (hp:l'.Perm l) (hs:l'.Pairwise (fun a b=>bfC b a=false)):l'=srtC l:=by
 have hs2:(srtC l).Pairwise (fun a b=>(!bfC b a)=true):=List.pairwise_mergeSort (fun a b c h1 h2=>by
   simp only[bfC,Bool.not_eq_true',decide_eq_false_iff_not]at *;omega) (fun a b=>by
   simp only[bfC,Bool.or_eq_true,Bool.not_eq_true',decide_eq_false_iff_not];omega) l
 refine List.Perm.eq_of_pairwise (le:=fun a b:Cd=>bfC b a=false) (fun a b ha hb h1 h2=>?_) hs (hs2.imp fun h=>by simpa using h) (hp.trans (srtC_perm l).symm);have ha:a∈l:=hp.mem_iff.1 ha;have hb:b∈l:=(srtC_perm l).mem_iff.1 hb;simp only[bfC,decide_eq_false_iff_not]at h1 h2;have e1:a.1=b.1:=by omega
 refine Classical.byContradiction fun hne=>?_;obtain⟨i,hi,ei⟩:=List.getElem_of_mem ha;obtain⟨j,hj,ej⟩:=List.getElem_of_mem hb;have hp:=List.pairwise_iff_getElem.1 hnd
 by_cases e:i=j
 ·subst e;exact hne (ei.symm.trans ej)
 ·rcases Nat.lt_or_gt_of_ne e with h | h
  ·have h9:=hp i j hi hj h;rw[ei,ej]at h9;exact h9 e1
  ·have h9:=hp j i hj hi h;rw[ei,ej]at h9;exact h9 e1.symm
def upN (m:Mx) (l:List Nat):Nat→Nat
 | 0=>0
 | q+1=>if isUpB m (l.getD q 0:Nat) then upN m l q+1 else upN m l q
theorem upN_le (m:Mx) (l:List Nat):∀q,upN m l q≤q
 | 0=>Nat.le_refl _
 | q+1=>by have:=upN_le m l q;rw[upN];split <;> omega
def givR (m:Mx) (j:Nat):Nat:=upN m (ofR m j).2.1 (ofR m j).2.1.length
theorem ofR_len (m:Mx) (j:Nat):(ofR m j).2.1.length≤16:=by
 unfold ofR;cases look m.js j with
 | none=>simp
 | some x=>exact lst_len x.ns
theorem gives_S (b:Nat) (m:Mx) (j:Nat) {W:World} (hW:TabW W):Spec Tryz.prog 151 [.pointer (some ⟨b,0,none⟩),.int .u32 (j:Int)] [MI b m,old W] fun Γ v Θ=>v=.int .i64 (givR m j:Nat)∧Θ=MI b m::old W::Γ:=by
 refine Zbd Tryz.func151 rfl Tryz.ntmps151 fun w0 Γ=>Zsh ?_;obtain⟨nl,hnl⟩:∃nl,nl=(ofR m j).2.1:=⟨_,rfl⟩;have hlen:=ofR_len m j;rw[←hnl]at hlen;refine ZY 8 ?_;refine ZY 4 ?_;refine Zp (Zc1 Ze (Of_S b m j hW) ?_);rintro v Θ ⟨sv,rfl,hsv,rfl⟩;rw[←hnl]at hsv ⊢;refine ZY 8 ?_;refine ZY 8 ?_;refine Zl (fun q ρ' Γ'=>∃i:Nat,q=nl.length-i∧i≤nl.length∧ρ'=[(0,.pointer (some ⟨b,0,none⟩)),(5,.int .i64 (upN m nl i:Nat)),(18,sv.v),(19,.int .i64 sv.n),(20,.int .i64 (i:Int))]∧Γ'=own sv 3 1 (nds nl)::MI b m::old W::Γ) (m:=_) (⟨0,rfl,by omega,rfl,rfl⟩) ?_;rintro q ρ' Γ' ⟨i,hq,hi,rfl,rfl⟩;have hle:=upN_le m nl i;refine ZY 5 ?_
 refine Zj ef (fun h1=>?_) (fun h1=>?_)
 ·refine S.ownSome sv (by omega) fun sb so hsa _ _ _=>?_;obtain⟨x,hx⟩:=getE (show i<nl.length by omega);have hxd:nl.getD i 0=x:=by simp[List.getD,hx]
  refine ZY 5 ?_;refine Zv (Zx (i) ef (hsa) ef (by omega)) ?_;refine Zv (Zo (sv) (i) ef (hsa) (by rw[List.getElem?_map,hx];rfl)) ?_;refine ZY 6 ?_;refine Zp (Zcp Ze (IsUp_S b m x) ?_);refine Zy ?_
  refine Zi ef (fun h2=>?_) (fun h2=>?_)
  ·have hs:upN m nl (i+1)=upN m nl i+1:=by rw[upN,hxd,if_pos h2]
   refine ZY 2 ?_;refine Zv (q_add rfl rfl (inI64 (by omega) (by omega))) ?_;refine ZY 3 ?_;refine Zv (Za ef ef) ?_;refine ZY 2 ?_;first | exact ZX (q-1) ⟨i+1,by omega,by omega,by rw[hs],rfl⟩ (by omega)
  ·have hs:upN m nl (i+1)=upN m nl i:=by rw[upN,hxd,if_neg (by rw[h2];simp)]
   refine ZY 2 ?_;refine Zv (Za ef ef) ?_;refine ZY 2 ?_;first | exact ZX (q-1) ⟨i+1,by omega,by omega,by rw[hs],rfl⟩ (by omega)
 ·have hfin:upN m nl i=givR m j:=by rw[givR,←hnl,show i=nl.length by omega]
  rw[hfin];refine ZY 7 ?_;exact Zf ef Zq (⟨rfl,rfl⟩)
abbrev jobsR (l:List Cd):List Nat:=l.map (·.1)
theorem jobs_S (R:Assn) (s:SV) (l:List Cd) (hsn:s.n=l.length) (hl:l.length≤1000) (hR:RdS R s s.n 2 (l.flatMap cdC)):Spec Tryz.prog 124 [s.v] [R] fun Γ v Θ=>∃u:SV,v=u.v∧u.n=l.length∧Θ=own u 31 1 (idsV (jobsR l))::R::Γ:=by
 refine Zbd Tryz.func124 rfl Tryz.ntmps124 fun w0 Γ=>Zsh ?_;refine S.rCap hR fun _ hc1 hc2=>?_;refine ZY 8 ?_;refine ZY 3 ?_;refine S.ent (Ent.ownNil 31 1) ?_;show S _ w0 _ (own SV.nil 31 1 (idsV (jobsR (l.take 0)))::_) _;refine ZY 5 ?_;refine Zl (fun q ρ' Γ'=>∃(i:Nat) (u:SV),q=l.length-i∧i≤l.length∧u.n=i∧ρ'=[(3,u.v),(6,s.v),(7,.int .i64 s.n),(8,.int .i64 (i:Int))]∧Γ'=own u 31 1 (idsV (jobsR (l.take i)))::R::Γ) (m:=_) (⟨0,SV.nil,rfl,by omega,rfl,rfl,rfl⟩) ?_;rintro q ρ' Γ' ⟨i,u,hq,hi,hun,rfl,rfl⟩;refine ZY 5 ?_
 refine Zj ef (fun h1=>?_) (fun h1=>?_)
 ·refine S.rSome hR (by omega) fun sb so hsa=>?_;obtain⟨x,hx⟩:=getE (show i<l.length by omega)
  have hnx:idsV (jobsR (l.take i))++[.int .u32 (x.1:Int)]=idsV (jobsR (l.take (i+1))):=by
   rw[List.take_add_one,hx];simp
  refine ZY 5 ?_;refine Zv (Zx (i) ef (hsa) ef (by omega)) ?_;refine Zv (q_loadRS hR (i*2) (cdC x) Eo.h rfl hsa (by omega) rfl rfl (flat_seg (enc:=cdC) (sz:=2) (fun _=>rfl) hx)) ?_;refine Zp (S.alloc Tryz.z152.h rfl ?_);intro b5;refine Zp (Zs ef ef (cs':=[_,_]) ef ?_);refine ZY 5 ?_;refine Zp (S.buildSlice (pvs:=[(_,_)]) [_] Tryz.underlying53 Tryz.inf31.h rfl rfl ⟨⟨rfl,rfl⟩,trivial⟩ rfl rfl ?_);intro b15;refine Zp (S.appendOw (s:=u) (1) ([.int .u32 (x.1:Int)]) Tryz.underlying53 Tryz.inf31.h rfl rfl rfl (blk_slAt (b:=b15) rfl (by unfold maxLen;omega)) (by first | rfl | exact allOne_bcells _) (⟨by omega,by omega⟩) rfl ?_);intro u2 hu2;refine ZY 3 ?_;refine Zv (Za ef ef) ?_;refine ZY 2 ?_;rw[hnx];exact ZX (q-1) (⟨i+1,u2,by omega,by omega,by omega,rfl,rfl⟩) (by omega)
 ·rw[show i=l.length by omega,List.take_length];refine ZY 7 ?_;exact Zf ef Zq (⟨u,rfl,by omega,rfl⟩)
def topUp (l:List Cd):Nat→Int
 | 0=>0
 | i+1=>max (topUp l i) ((l.getD i (0,0)).2+1)
def topR (l:List Cd):Int:=topUp l l.length
theorem top_S (R:Assn) (s:SV) (l:List Cd) (hsn:s.n=l.length) (hR:RdS R s s.n 2 (l.flatMap cdC)) (ht:∀x∈l,0≤x.2∧x.2≤255):Spec Tryz.prog 123 [s.v] [R] fun Γ v Θ=>v=.int .i64 (topR l)∧Θ=R::Γ:=by
 refine Zbd Tryz.func123 rfl Tryz.ntmps123 fun w0 Γ=>Zsh ?_;refine S.rCap hR fun _ hc1 hc2=>?_;refine ZY 8 ?_;refine ZY 8 ?_;refine Zl (fun q ρ' Γ'=>∃i:Nat,q=l.length-i∧i≤l.length∧ρ'=[(3,.int .i64 (topUp l i)),(6,s.v),(7,.int .i64 s.n),(8,.int .i64 (i:Int))]∧Γ'=R::Γ) (m:=_) (⟨0,rfl,by omega,rfl,rfl⟩) ?_;rintro q ρ' Γ' ⟨i,hq,hi,rfl,rfl⟩;refine ZY 5 ?_
 refine Zj ef (fun h1=>?_) (fun h1=>?_)
 ·refine S.rSome hR (by omega) fun sb so hsa=>?_;obtain⟨x,hx⟩:=getE (show i<l.length by omega);have hxr:=ht x (List.mem_of_getElem? hx);have hxd:l.getD i (0,0)=x:=by simp[List.getD,hx]
  have hs:topUp l (i+1)=max (topUp l i) (x.2+1):=by rw[topUp,hxd]
  refine ZY 5 ?_;refine Zv (Zx (i) ef (hsa) ef (by omega)) ?_;refine Zv (q_loadRS hR (i*2) (cdC x) Eo.h rfl hsa (by omega) rfl rfl (flat_seg (enc:=cdC) (sz:=2) (fun _=>rfl) hx)) ?_;refine Zp (S.alloc Tryz.z152.h rfl ?_);intro b5;refine Zp (Zs ef ef (cs':=[_,_]) ef ?_);refine ZY 5 ?_;refine Zv (q_conv Tryz.it3.h (by rw[Tryz.underlying5];rfl) rfl (inI64 (by omega) (by omega))) ?_;refine Zv (q_add rfl rfl (inI64 (by omega) (by omega))) ?_;refine Zv (q_max (topUp l (i+1)) rfl rfl (by rw[hs];omega)) ?_;refine ZY 3 ?_;refine Zv (Za ef ef) ?_;refine ZY 2 ?_;exact ZX (q-1) (⟨i+1,by omega,by omega,rfl,rfl⟩) (by omega)
 ·rw[show i=l.length by omega];refine ZY 7 ?_;exact Zf ef Zq (⟨rfl,rfl⟩)
def lesUp (m:Mx) (row tier:Int) (l:List Cd):Nat→List Cd
 | 0=>[]
 | i+1=>if (l.getD i (0,0)).1∈(l.take i).map (·.1) then lesUp m row tier l i else
  if ((ofR m (l.getD i (0,0)).1).2.2&&decide ((ofR m (l.getD i (0,0)).1).1=row)&&decide ((l.getD i (0,0)).2<tier))=true then lesUp m row tier l i++[l.getD i (0,0)] else lesUp m row tier l i
theorem lesUp_mem {m:Mx} {row tier:Int} {l:List Cd} {x:Cd}:∀ {i:Nat},i≤l.length→x∈lesUp m row tier l i→x∈l.take i
 | 0,_,h=>by cases h
 | i+1,hi,h=>by
  have hx:=List.getElem?_eq_getElem (show i<l.length by omega);have hg:l.getD i (0,0)=l[i]:=by simp[List.getD,hx]
  rw[lesUp,hg]at h;rw[List.take_add_one,hx,List.mem_append]
  split at h
  ·exact .inl (lesUp_mem (by omega) h)
  ·split at h
   ·rw[List.mem_append]at h
    rcases h with h | h
    ·exact .inl (lesUp_mem (by omega) h)
    ·exact .inr (by simpa using h)
   ·exact .inl (lesUp_mem (by omega) h)
theorem lesUp_len (m:Mx) (row tier:Int) (l:List Cd):∀i,(lesUp m row tier l i).length≤i
 | 0=>Nat.le_refl _
 | i+1=>by
  have:=lesUp_len m row tier l i;rw[lesUp]
  split
  ·omega
  ·split
   ·rw[List.length_append,List.length_singleton];omega
   ·omega
theorem lesUp_nd {m:Mx} {row tier:Int} {l:List Cd}:∀ {i:Nat},i≤l.length→(lesUp m row tier l i).Pairwise (fun a b=>a.1≠b.1)
 | 0,_=>List.Pairwise.nil
 | i+1,hi=>by
  have ih:=lesUp_nd (m:=m) (row:=row) (tier:=tier) (l:=l) (i:=i) (by omega);rw[lesUp]
  split
  ·exact ih
  ·rename_i h
   split
   ·refine List.pairwise_append.2 ⟨ih,List.pairwise_singleton _ _,fun a ha c hc e=>?_⟩;rw[List.mem_singleton]at hc;subst hc;exact h (List.mem_map.2 ⟨a,lesUp_mem (by omega) ha,e⟩)
   ·exact ih
def lesR (m:Mx) (row tier:Int) (l:List Cd):List Cd:=srtC (lesUp m row tier l l.length)
theorem lesser_S (b:Nat) (m:Mx) (row tier:Int) (R:Assn) (s:SV) (l:List Cd) (hsn:s.n=l.length) (hl:l.length≤1000) (hR:RdS R s s.n 2 (l.flatMap cdC)) {W:World} (hW:TabW W):Spec Tryz.prog 150 [.pointer (some ⟨b,0,none⟩),.int .i64 row,s.v,.int .u8 tier] [MI b m,R,old W] fun Γ v Θ=>
  ∃u:SV,v=u.v∧u.n=(lesR m row tier l).length∧Θ=own u 152 2 ((lesR m row tier l).flatMap cdC)::MI b m::R::old W::Γ:=by
 refine Zbd Tryz.func150 rfl Tryz.ntmps150 fun w0 Γ=>Zsh ?_;refine S.rCap hR fun _ hc1 hc2=>?_;refine ZY 6 ?_;refine Zp (S.makeMap .u32 rfl ?_);intro b18;refine ZY 4 ?_;refine S.ent (Ent.ownNil 152 2) ?_;show S _ w0 _ (own SV.nil 152 2 (([]:List Cd).flatMap cdC)::_) _;refine ZY 8 ?_;refine ZY 2 ?_;refine Zl (fun q ρ' Γ'=>∃(i:Nat) (u:SV) (o:List Cd) (K:List (Int×Value)),q=l.length-i∧i≤l.length∧o=lesUp m row tier l i∧u.n=o.length∧(∀z:Nat,alGet (z:Int) K=if z∈(l.take i).map (·.1) then some (.agg #[]) else none) ∧   ρ'=[(0,.pointer (some ⟨b,0,none⟩)),(1,.int .i64 row),(3,.int .u8 tier),(9,.map (some b18)),(10,u.v),(19,s.v),(20,.int .i64 s.n),(21,.int .i64 (i:Int))]∧Γ'=own u 152 2 (o.flatMap cdC)::mapL b18 .u32 K::MI b m::R::old W::Γ) (m:=_) (⟨0,SV.nil,[],[],rfl,by omega,rfl,rfl,fun z=>(by simp;rfl),rfl,rfl⟩) ?_;rintro q ρ' Γ' ⟨i,u,o,K,hq,hi,ho,hun,hK,rfl,rfl⟩;have hol:=lesUp_len m row tier l i;rw[←ho]at hol;refine ZY 5 ?_
 refine Zj ef (fun h1=>?_) (fun h1=>?_)
 ·refine S.rSome hR (by omega) fun sb so hsa=>?_;obtain⟨x,hx⟩:=getE (show i<l.length by omega);have hxd:l.getD i (0,0)=x:=by simp[List.getD,hx]
  have htk:(l.take (i+1)).map (·.1)=(l.take i).map (·.1)++[x.1]:=by rw[List.take_add_one,hx];simp
  obtain⟨seen,hseen⟩:∃seen,seen=decide (x.1∈(l.take i).map (·.1)):=⟨_,rfl⟩;have hKx:=hK x.1;refine ZY 5 ?_;refine Zv (Zx (i) ef (hsa) ef (by omega)) ?_;refine Zv (q_loadRS hR (i*2) (cdC x) Eo.h rfl hsa (by omega) rfl rfl (flat_seg (enc:=cdC) (sz:=2) (fun _=>rfl) hx)) ?_;refine Zp (S.alloc Tryz.z152.h rfl ?_);intro b12;refine Zp (Zs ef ef (cs':=[_,_]) ef ?_);refine ZY 7 ?_;refine Zv (q_lookupOk (.agg #[]) (seen) Tryz.underlying262 Tryz.underlying31 Tryz.zv134.h rfl rfl rfl (by rw[hKx,hseen];by_cases h:x.1∈(l.take i).map (·.1);(rw[if_pos h,decide_eq_true h]);(rw[if_neg h,decide_eq_false h]))) ?_;refine ZY 3 ?_;refine Zp (S.alloc Tryz.z134.h rfl ?_);intro b13;refine Zp (Zs ef ef (cs':=[]) ef ?_);refine ZY 6 ?_
  refine Zi ef (fun h2=>?_) (fun h2=>?_)
  ·have hin:x.1∈(l.take i).map (·.1):=by rw[h2]at hseen;exact of_decide_eq_true hseen.symm
   have ho2:o=lesUp m row tier l (i+1):=by rw[lesUp,hxd,if_pos hin,ho]
   have hK2:∀z:Nat,alGet (z:Int) K=if z∈(l.take (i+1)).map (·.1) then some (.agg #[]) else none:=fun z=>by
    rw[hK,htk]
    by_cases h:z∈(l.take i).map (·.1)
    ·rw[if_pos h,if_pos (List.mem_append.2 (.inl h))]
    ·rw[if_neg h,if_neg];rw[List.mem_append,List.mem_singleton]
     rintro (h9 | rfl)
     ·exact h h9
     ·exact h hin
   refine ZY 2 ?_;refine Zv (Za ef ef) ?_;refine ZY 2 ?_;first | (rw[flat_snoc cdC o x];exact ZX (q-1) ⟨i+1,u2,o++[x],alPut (x.1:Int) (.agg #[]) K,by omega,by omega,ho2,by rw[List.length_append,List.length_singleton];omega,hK2,rfl,rfl⟩ (by omega)) | exact ZX (q-1) ⟨i+1,u,o,alPut (x.1:Int) (.agg #[]) K,by omega,by omega,ho2,hun,hK2,rfl,rfl⟩ (by omega) | exact ZX (q-1) ⟨i+1,u,o,K,by omega,by omega,ho2,hun,hK2,rfl,rfl⟩ (by omega)
  ·have hin:¬x.1∈(l.take i).map (·.1):=by rw[h2]at hseen;exact of_decide_eq_false hseen.symm
   have hK2:∀z:Nat,alGet (z:Int) (alPut (x.1:Int) (.agg #[]) K)=if z∈(l.take (i+1)).map (·.1) then some (.agg #[]) else none:=fun z=>by
    rw[alGet_put,hK,htk]
    by_cases h:z∈(l.take i).map (·.1)
    ·rw[if_pos h,if_pos (List.mem_append.2 (.inl h))];split <;> rfl
    ·rw[if_neg h]
     by_cases e:z=x.1
     ·subst e;rw[if_pos rfl,if_pos (List.mem_append.2 (.inr (List.mem_singleton.2 rfl)))]
     ·rw[if_neg (by omega),if_neg];rw[List.mem_append,List.mem_singleton]
      rintro (h9 | h9)
      ·exact h h9
      ·exact e h9
   obtain⟨r,nl,ok,hof⟩:∃r nl ok,ofR m x.1=(r,nl,ok):=⟨_,_,_,rfl⟩;have hstep:lesUp m row tier l (i+1)=if (ok&&decide (r=row)&&decide (x.2<tier))=true then o++[x] else o:=by rw[lesUp,hxd,if_neg hin,hof,ho]
   refine ZY 6 ?_;refine Zv (q_build (pvs:=[]) [] Tryz.z134.h Tryz.p134.h trivial rfl) ?_;refine Zp (S.mapUpdate Tryz.underlying262 Tryz.underlying31 rfl rfl rfl rfl ?_);refine ZY 6 ?_;refine Zp (Zc1 Ze (Of_S b m x.1 hW) ?_);rintro v Θ ⟨sv,rfl,hsv,rfl⟩;rw[hof]at hsv ⊢;simp only at hsv ⊢;refine ZY 8 ?_;refine ZY 4 ?_
   refine Zbb 46 ef (fun hg10_1=>?_) (fun hg10_1=>?_)
   ·refine ZY 5 ?_
    refine Zb 51 ef (fun hg10_6=>?_) (fun hg10_6=>?_)
    ·refine ZY 6 ?_
     refine Zj ef (fun h3=>?_) (fun h3=>?_)
     ·have ho2:o++[x]=lesUp m row tier l (i+1):=by rw[hstep,hg10_1,decide_eq_true hg10_6,decide_eq_true h3];rfl
      refine ZY 3 ?_;refine Zp (S.buildSlice (pvs:=[(_,_)]) [_,_] Tryz.underlying150 Tryz.inf152.h rfl rfl ⟨⟨rfl,rfl⟩,trivial⟩ rfl rfl ?_);intro b59;refine Zp (S.appendOw (s:=u) (1) (cdC x) Tryz.underlying150 Tryz.inf152.h rfl rfl rfl (blk_slAt (b:=b59) rfl (by unfold maxLen;omega)) (by first | rfl | exact allOne_bcells _) (⟨by omega,by omega⟩) rfl ?_);intro u2 hu2;refine ZY 3 ?_;refine Zv (Za ef ef) ?_;refine ZY 2 ?_;first | (rw[flat_snoc cdC o x];exact ZX (q-1) ⟨i+1,u2,o++[x],alPut (x.1:Int) (.agg #[]) K,by omega,by omega,ho2,by rw[List.length_append,List.length_singleton];omega,hK2,rfl,rfl⟩ (by omega)) | exact ZX (q-1) ⟨i+1,u,o,alPut (x.1:Int) (.agg #[]) K,by omega,by omega,ho2,hun,hK2,rfl,rfl⟩ (by omega) | exact ZX (q-1) ⟨i+1,u,o,K,by omega,by omega,ho2,hun,hK2,rfl,rfl⟩ (by omega)
     ·have ho2:o=lesUp m row tier l (i+1):=by rw[hstep,hg10_1,decide_eq_true hg10_6,decide_eq_false h3];rfl
      refine ZY 2 ?_;refine Zv (Za ef ef) ?_;refine ZY 2 ?_;first | (rw[flat_snoc cdC o x];exact ZX (q-1) ⟨i+1,u2,o++[x],alPut (x.1:Int) (.agg #[]) K,by omega,by omega,ho2,by rw[List.length_append,List.length_singleton];omega,hK2,rfl,rfl⟩ (by omega)) | exact ZX (q-1) ⟨i+1,u,o,alPut (x.1:Int) (.agg #[]) K,by omega,by omega,ho2,hun,hK2,rfl,rfl⟩ (by omega) | exact ZX (q-1) ⟨i+1,u,o,K,by omega,by omega,ho2,hun,hK2,rfl,rfl⟩ (by omega)
    ·have ho2:o=lesUp m row tier l (i+1):=by rw[hstep,hg10_1,decide_eq_false hg10_6];rfl
     refine ZY 8 ?_;refine Zy ?_;refine Zv (Za ef ef) ?_;refine ZY 2 ?_;first | (rw[flat_snoc cdC o x];exact ZX (q-1) ⟨i+1,u2,o++[x],alPut (x.1:Int) (.agg #[]) K,by omega,by omega,ho2,by rw[List.length_append,List.length_singleton];omega,hK2,rfl,rfl⟩ (by omega)) | exact ZX (q-1) ⟨i+1,u,o,alPut (x.1:Int) (.agg #[]) K,by omega,by omega,ho2,hun,hK2,rfl,rfl⟩ (by omega) | exact ZX (q-1) ⟨i+1,u,o,K,by omega,by omega,ho2,hun,hK2,rfl,rfl⟩ (by omega)
   ·have ho2:o=lesUp m row tier l (i+1):=by rw[hstep,hg10_1];rfl
    refine ZY 8 ?_;refine ZY 6 ?_;refine Zv (Za ef ef) ?_;refine ZY 2 ?_;first | (rw[flat_snoc cdC o x];exact ZX (q-1) ⟨i+1,u2,o++[x],alPut (x.1:Int) (.agg #[]) K,by omega,by omega,ho2,by rw[List.length_append,List.length_singleton];omega,hK2,rfl,rfl⟩ (by omega)) | exact ZX (q-1) ⟨i+1,u,o,alPut (x.1:Int) (.agg #[]) K,by omega,by omega,ho2,hun,hK2,rfl,rfl⟩ (by omega) | exact ZX (q-1) ⟨i+1,u,o,K,by omega,by omega,ho2,hun,hK2,rfl,rfl⟩ (by omega)
 ·have hil:i=l.length:=by omega
  refine ZY 4 ?_;refine Zp (Zc1 Ze (SortC_S u o (by omega)) ?_);rintro v Θ ⟨l',hp,hps,rfl⟩;have hl':l'=lesR m row tier l:=by rw[lesR,←hil,←ho];exact srtC_eq (by rw[ho];exact lesUp_nd (by omega)) hp hps
  have hlen:=hp.length_eq;rw[hl']at hlen ⊢;refine ZY 7 ?_;exact Zf ef Zq (⟨u,rfl,by omega,rfl⟩)
def haveUp (m:Mx) (al:List Cd) (h0:Nat):Nat→Nat
 | 0=>h0
 | i+1=>haveUp m al h0 i+givR m (al.getD i (0,0)).1
theorem givR_le (m:Mx) (j:Nat):givR m j≤16:=by
 have h1:=upN_le m (ofR m j).2.1 (ofR m j).2.1.length;have h2:=ofR_len m j;unfold givR;omega
theorem haveUp_le {m:Mx} {al:List Cd} {h0:Nat} (h:h0≤16):∀i,haveUp m al h0 i≤16+16*i
 | 0=>h
 | i+1=>by
  have h1:=haveUp_le (m:=m) (al:=al) h i;have h2:=givR_le m (al.getD i (0,0)).1;rw[haveUp];omega
def vicUp (m:Mx) (al:List Cd) (h0:Nat) (k:Int):Nat→Option Nat
 | 0=>none
 | i+1=>match vicUp m al h0 k i with
  | some r=>some r
  | none=>if k≤(haveUp m al h0 i:Nat) then some i else none
theorem vicUp_mono {m:Mx} {al:List Cd} {h0:Nat} {k:Int} {r:Nat}:∀ {p i:Nat},vicUp m al h0 k i=some r→i≤p→vicUp m al h0 k p=some r
 | 0,i,h,hp=>by rwa [show i=0 by omega]at h
 | p+1,i,h,hp=>by
  by_cases e:i=p+1
  ·rwa [e]at h
  ·rw[vicUp,vicUp_mono h (by omega)]
def ofV (m:Mx) (row tier k:Int) (l:List Cd):List Cd×Bool:=
 if k<1∨row<0∨(m.R:Int)≤row then ([],false)
 else match vicUp m (lesR m row tier l) (freeR m row) k ((lesR m row tier l).length+1) with
  | some i=>((lesR m row tier l).take i,true)
  | none=>([],false)
theorem freeR_le (m:Mx) (z:Int):freeR m z≤16:=by
 unfold freeR
 split
 ·exact lst_len _
 ·omega
theorem lesR_len (m:Mx) (row tier:Int) (l:List Cd):(lesR m row tier l).length≤l.length:=by
 rw[lesR,(srtC_perm _).length_eq];exact lesUp_len m row tier l _
theorem flat_take {α:Type} {enc:α→List Value} {sz:Nat} (he:∀x,(enc x).length=sz) (os:List α) (k:Nat):(os.flatMap enc).take (k*sz)=(os.take k).flatMap enc:=by
 induction os generalizing k with
 | nil=>simp
 | cons x l ih=>
  cases k with
  | zero=>simp
  | succ k=>
   rw[List.flatMap_cons,List.take_succ_cons,List.flatMap_cons,List.take_append,he,List.take_of_length_le (by rw[he,Nat.succ_mul];omega),show (k+1)*sz-sz=k*sz by rw[Nat.succ_mul];omega,ih]
set_option maxHeartbeats 1000000 in
theorem of_S (b:Nat) (m:Mx) (row tier k:Int) (R:Assn) (s:SV) (l:List Cd) (hsn:s.n=l.length) (hl:l.length≤1000) (hR:RdS R s s.n 2 (l.flatMap cdC)) {W:World} (hW:TabW W):Spec Tryz.prog 120 [.pointer (some ⟨b,0,none⟩),.int .i64 row,s.v,.int .u8 tier,.int .i64 k] [MI b m,R,old W] fun Γ v Θ=>
  ∃u:SV,v=.tuple #[u.v,.bool (ofV m row tier k l).2]∧u.n=(ofV m row tier k l).1.length∧Θ=own u 152 2 ((ofV m row tier k l).1.flatMap cdC)::MI b m::R::old W::Γ:=by
 refine Zbd Tryz.func120 rfl Tryz.ntmps120 fun w0 Γ=>Zsh ?_;obtain⟨al,hal⟩:∃al,al=lesR m row tier l:=⟨_,rfl⟩;have hall:=lesR_len m row tier l;rw[←hal]at hall;have hfr:=freeR_le m row;refine ZY 8 ?_;refine Zy ?_;refine Zp (Zcp Ze (Size_S b m) ?_);refine ZY 8 ?_;refine ZY 3 ?_
 refine Zb 24 ef (fun hg2_2=>?_) (fun hg2_2=>?_)
 ·have hfin:ofV m row tier k l=([],false):=by rw[ofV,if_pos (.inl hg2_2)]
  refine ZY 8 ?_;refine ZY 8 ?_;refine S.ent (Ent.ownNil 152 2) ?_;show S _ w0 _ (own SV.nil 152 2 (([]:List Cd).flatMap cdC)::_) _;exact Zf ef Zq (⟨SV.nil,by rw[hfin];rfl,by rw[hfin];rfl,by rw[hfin]⟩)
 ·refine ZY 4 ?_
  refine Zb 28 ef (fun hg2_6=>?_) (fun hg2_6=>?_)
  ·have hfin:ofV m row tier k l=([],false):=by rw[ofV,if_pos (.inr (.inl hg2_6))]
   refine ZY 8 ?_;refine ZY 4 ?_;refine S.ent (Ent.ownNil 152 2) ?_;show S _ w0 _ (own SV.nil 152 2 (([]:List Cd).flatMap cdC)::_) _;exact Zf ef Zq (⟨SV.nil,by rw[hfin];rfl,by rw[hfin];rfl,by rw[hfin]⟩)
  ·refine ZY 5 ?_
   refine Zj ef (fun h1=>?_) (fun h1=>?_)
   ·have hfin:ofV m row tier k l=([],false):=by rw[ofV,if_pos (.inr (.inr (by omega)))]
    refine ZY 6 ?_;refine S.ent (Ent.ownNil 152 2) ?_;show S _ w0 _ (own SV.nil 152 2 (([]:List Cd).flatMap cdC)::_) _;exact Zf ef Zq (⟨SV.nil,by rw[hfin];rfl,by rw[hfin];rfl,by rw[hfin]⟩)
   ·have hof:ofV m row tier k l=match vicUp m al (freeR m row) k (al.length+1) with | some i=>(al.take i,true) | none=>([],false):=by rw[ofV,if_neg (by omega),←hal]
    refine ZY 5 ?_;refine Zp (Zcp Ze (Free_S b m row) ?_);refine ZY 8 ?_;refine Zp (Zc1 Ze (lesser_S b m row tier R s l hsn hl hR hW) ?_);rintro v Θ ⟨u,rfl,hun,rfl⟩;rw[←hal]at hun ⊢;refine S.ownLen u fun hul1 hul2 hul3=>?_;refine ZY 7 ?_;refine Zl (fun q ρ' Γ'=>∃i:Nat,q=al.length-i∧i≤al.length∧vicUp m al (freeR m row) k i=none∧ρ'=[(0,.pointer (some ⟨b,0,none⟩)),(4,.int .i64 k),(14,.int .i64 (haveUp m al (freeR m row) i:Nat)),(15,u.v),(16,.int .i64 (i:Int))]∧Γ'=own u 152 2 (al.flatMap cdC)::MI b m::R::old W::Γ) (m:=_) (⟨0,rfl,by omega,rfl,rfl,rfl⟩) ?_;rintro q ρ' Γ' ⟨i,hq,hi,hno,rfl,rfl⟩;have hle:=haveUp_le (m:=m) (al:=al) hfr i;refine ZY 8 ?_;refine Zy ?_
    refine Zj ef (fun h2=>?_) (fun h2=>?_)
    ·have hv:vicUp m al (freeR m row) k (i+1)=some i:=by rw[vicUp,hno];exact if_pos (by omega)
     have hfin:ofV m row tier k l=(al.take i,true):=by rw[hof,vicUp_mono hv (by omega)]
     refine ZY 4 ?_;refine Zv (q_sliceTo (i) Eo.h rfl rfl rfl (by omega)) ?_;refine ZY 4 ?_;refine S.conv (own u 152 2 (al.flatMap cdC)) (Ent.ownTake u 152 2 _ (k:=i) (by omega) _) ?_;rw[flat_take cdC_len al i];exact Zf ef Zq (⟨⟨u.a,i,u.c⟩,by rw[hfin];rfl,by rw[hfin];show i=(al.take i).length;rw[List.length_take];omega,by rw[hfin]⟩)
    ·have hv:vicUp m al (freeR m row) k (i+1)=none:=by rw[vicUp,hno];exact if_neg (by omega)
     refine ZY 8 ?_;refine Zy ?_
     refine Zj ef (fun h3=>?_) (fun h3=>?_)
     ·have hfin:ofV m row tier k l=([],false):=by rw[hof,show al.length+1=i+1 by omega,hv]
      refine ZY 6 ?_;refine S.ent (Ent.ownNil 152 2) ?_;show S _ w0 _ (own SV.nil 152 2 (([]:List Cd).flatMap cdC)::_) _;exact Zf ef Zq (⟨SV.nil,by rw[hfin];rfl,by rw[hfin];rfl,by rw[hfin]⟩)
     ·refine S.ownSome u (by omega) fun ub uo hua _ _ _=>?_;obtain⟨x,hx⟩:=getE (show i<al.length by omega);have hxd:al.getD i (0,0)=x:=by simp[List.getD,hx]
      have hs:haveUp m al (freeR m row) (i+1)=haveUp m al (freeR m row) i+givR m x.1:=by rw[haveUp,hxd]
      have hgl:=givR_le m x.1;refine ZY 6 ?_;refine Zv (Zx (i) ef (hua) ef (by omega)) ?_;refine Zy ?_;refine Zv (Zo (u) (i*2+0) ef (hua) (flat_get (enc:=cdC) (sz:=2) (k:=0) (v:=.int .u32 (x.1:Int)) cdC_len hx rfl)) ?_;refine Zp (Zcp Ze (gives_S b m x.1 hW) ?_);refine Zv (q_add rfl rfl (inI64 (by omega) (by omega))) ?_;refine ZY 4 ?_;refine Zv (q_add rfl rfl (inI64 (by omega) (by omega))) ?_;refine ZY 2 ?_;exact ZX (q-1) (⟨i+1,by omega,by omega,hv,by rw[hs],rfl⟩) (by omega)
def cmpV (v w:List Cd):Int:=orI [cmpI (v.length:Int) (w.length:Int),cmpI (topR v) (topR w)]
def chUp (m:Mx) (tier k:Int) (l:List Cd):Nat→List Cd×Nat×Bool
 | 0=>([],0,false)
 | i+1=>if ((ofV m (i:Nat) tier k l).2&&(!(chUp m tier k l i).2.2 || decide (cmpV (ofV m (i:Nat) tier k l).1 (chUp m tier k l i).1<0)))=true then ((ofV m (i:Nat) tier k l).1,i,true) else chUp m tier k l i
def choR (m:Mx) (tier k:Int) (l:List Cd):List Cd×Nat×Bool:=chUp m tier k l m.R
theorem lesR_mem {m:Mx} {row tier:Int} {l:List Cd} {x:Cd} (h:x∈lesR m row tier l):x∈l:=by
 have h1:=(srtC_perm _).mem_iff.1 h;exact List.mem_of_mem_take (lesUp_mem (Nat.le_refl _) h1)
theorem ofV_mem {m:Mx} {row tier k:Int} {l:List Cd} {x:Cd} (h:x∈(ofV m row tier k l).1):x∈l:=by
 unfold ofV at h
 split at h
 ·cases h
 ·split at h
  ·exact lesR_mem (List.mem_of_mem_take h)
  ·cases h
theorem ofV_len (m:Mx) (row tier k:Int) (l:List Cd):(ofV m row tier k l).1.length≤l.length:=by
 have:=lesR_len m row tier l;unfold ofV
 split
 ·simp
 ·split
  ·simp only[List.length_take];omega
  ·simp
set_option maxHeartbeats 1000000 in
theorem Choose_S (b:Nat) (m:Mx) (tier k:Int) (R:Assn) (s:SV) (l:List Cd) (hsn:s.n=l.length) (hl:l.length≤1000) (ht:∀x∈l,0≤x.2∧x.2≤255) (hR:RdS R s s.n 2 (l.flatMap cdC)) {W:World} (hW:TabW W):Spec Tryz.prog 82 [.pointer (some ⟨b,0,none⟩),s.v,.int .u8 tier,.int .i64 k] [MI b m,R,old W] fun Γ v Θ=>
  ∃u:SV,v=.tuple #[.agg #[.int .i64 ((choR m tier k l).2.1:Nat),u.v],.bool (choR m tier k l).2.2]∧u.n=(choR m tier k l).1.length∧Θ=own u 31 1 (idsV (jobsR (choR m tier k l).1))::MI b m::R::old W::Γ:=by
 refine Spec.miOk fun hok=>?_;refine Zbd Tryz.func82 rfl Tryz.ntmps82 fun w0 Γ=>Zsh ?_;have hR8:=hok.R8;refine ZY 2 ?_;refine Zp (S.alloc Tryz.z154.h rfl ?_);intro b8;refine ZY 8 ?_;refine ZY 6 ?_;refine Zp (Zcp Ze (Size_S b m) ?_);refine ZY 8 ?_;refine Zy ?_;refine S.ent (Ent.ownNil 152 2) ?_;show S _ w0 _ (own SV.nil 152 2 (([]:List Cd).flatMap cdC)::_) _;refine ZY 4 ?_;refine Zl (fun q ρ' Γ'=>∃(i:Nat) (bu:SV) (best:List Cd) (row:Nat) (found:Bool),q=m.R-i∧i≤m.R∧chUp m tier k l i=(best,row,found)∧bu.n=best.length∧best.length≤1000∧(∀x∈best,x∈l) ∧   ρ'=[(0,.pointer (some ⟨b,0,none⟩)),(1,s.v),(2,.int .u8 tier),(3,.int .i64 k),(8,.pointer (some ⟨b8,0,none⟩)),(10,bu.v),(11,.int .i64 (row:Int)),(12,.bool found),(23,.int .i64 (m.R:Int)),(24,.int .i64 (i:Int))] ∧   Γ'=own bu 152 2 (best.flatMap cdC)::blk b8 154 #[.int .i64 0,.slice none 0 0]::MI b m::R::old W::Γ) (m:=_) (⟨0,SV.nil,[],0,false,rfl,by omega,rfl,rfl,by simp,fun _ h=>(by cases h),rfl,rfl⟩) ?_;rintro q ρ' Γ' ⟨i,bu,best,row,found,hq,hi,hch,hbu,hbl,hbm,rfl,rfl⟩;obtain⟨vl,ok,hv⟩:∃vl ok,ofV m (i:Nat) tier k l=(vl,ok):=⟨_,_,rfl⟩;have hvl:=ofV_len m (i:Nat) tier k l;have hvm:∀x∈vl,x∈l:=fun x hx=>ofV_mem (m:=m) (row:=(i:Nat)) (tier:=tier) (k:=k) (by rw[hv];exact hx);rw[hv]at hvl;have hvl:vl.length≤l.length:=hvl;obtain⟨c,hc⟩:∃c,c=(ok&&(!found || decide (cmpV vl best<0))):=⟨_,rfl⟩;have hstep:chUp m tier k l (i+1)=if c=true then (vl,i,true) else (best,row,found):=by rw[chUp,hch,hv,hc]
 refine ZY 5 ?_
 refine Zj ef (fun h1=>?_) (fun h1=>?_)
 ·refine ZY 8 ?_;refine ZY 7 ?_;refine Zp (Zc1 Ze (of_S b m (i:Nat) tier k R s l hsn hl hR hW) ?_);rintro v Θ ⟨u,rfl,hun,rfl⟩;rw[hv]at hun ⊢;simp only at hun ⊢;refine ZY 7 ?_
  refine Zc (fun ρ' Γ'=>ρ'=[(0,.pointer (some ⟨b,0,none⟩)),(1,s.v),(2,.int .u8 tier),(3,.int .i64 k),(8,.pointer (some ⟨b8,0,none⟩)),(10,bu.v),(11,.int .i64 (row:Int)),(12,.bool found),(15,.int .i64 (i:Int)),(16,u.v),(23,.int .i64 (m.R:Int)),(24,.int .i64 (i:Int)),(55,.bool c)] ∧   Γ'=own u 152 2 (vl.flatMap cdC)::own bu 152 2 (best.flatMap cdC)::blk b8 154 #[.int .i64 0,.slice none 0 0]::MI b m::R::old W::Γ) ?_ ?_
  ·refine ZY 3 ?_
   refine Zbb 37 ef (fun hg8_1=>?_) (fun hg8_1=>?_)
   ·refine ZY 3 ?_
    refine Zbb 40 ef (fun hg8_4=>?_) (fun hg8_4=>?_)
    ·refine ZY 8 ?_;refine ZY 8 ?_;first | (have e:c=decide (orI [cmpI u.n bu.n,cmpI (topR vl) (topR best)]<0):=(by rw[hc,hg8_1,hg8_4,cmpV,hun,hbu];rfl) ;rw[e] ;exact S.meet ⟨rfl,rfl⟩ ⟨rfl,rfl,rfl,rfl,rfl,rfl,rfl,rfl,rfl,rfl,rfl,rfl,rfl,trivial⟩ Sub.ent) | (have e:c=true:=(by rw[hc,hg8_1,hg8_4];rfl) ;rw[e] ;exact S.meet ⟨rfl,rfl⟩ ⟨rfl,rfl,rfl,rfl,rfl,rfl,rfl,rfl,rfl,rfl,rfl,rfl,rfl,trivial⟩ Sub.ent) | (have e:c=false:=(by rw[hc,hg8_1];rfl) ;rw[e] ;exact S.meet ⟨rfl,rfl⟩ ⟨rfl,rfl,rfl,rfl,rfl,rfl,rfl,rfl,rfl,rfl,rfl,rfl,rfl,trivial⟩ Sub.ent)
    ·refine ZY 4 ?_;refine Zg ef ef ef (Zcp Ze (Compare64_S u.n bu.n) ?_);refine Zy ?_;refine Zg ef ef ef (Zcp Ze (top_S (own u 152 2 (vl.flatMap cdC)) u vl hun RdS.own (fun x hx=>ht x (hvm x hx))) ?_);refine Zy ?_;refine Zg ef ef ef (Zcp Ze (top_S (own bu 152 2 (best.flatMap cdC)) bu best hbu RdS.own (fun x hx=>ht x (hbm x hx))) ?_);refine Zg ef ef ef (Zcp Ze (Compare64_S (topR vl) (topR best)) ?_);refine Zg ef ef ef (S.buildSlice (pvs:=[(_,_),(_,_)]) [_,_] Tryz.underlying66 Tryz.inf3.h rfl rfl ⟨⟨rfl,rfl⟩,⟨rfl,rfl⟩,trivial⟩ rfl rfl ?_);intro b51;refine Zg ef ef ef (Zcp Ze (Or_S (blk b51 3 #[.int .i64 (cmpI u.n bu.n),.int .i64 (cmpI (topR vl) (topR best))]) ⟨some ⟨b51,0,none⟩,2,2⟩ [cmpI u.n bu.n,cmpI (topR vl) (topR best)] rfl (rdBlk (cs:=[.int .i64 (cmpI u.n bu.n),.int .i64 (cmpI (topR vl) (topR best))]) rfl (by unfold maxLen;omega))) ?_);refine ZY 4 ?_;first | (have e:c=decide (orI [cmpI u.n bu.n,cmpI (topR vl) (topR best)]<0):=(by rw[hc,hg8_1,hg8_4,cmpV,hun,hbu];rfl) ;rw[e] ;exact S.meet ⟨rfl,rfl⟩ ⟨rfl,rfl,rfl,rfl,rfl,rfl,rfl,rfl,rfl,rfl,rfl,rfl,rfl,trivial⟩ Sub.ent) | (have e:c=true:=(by rw[hc,hg8_1,hg8_4];rfl) ;rw[e] ;exact S.meet ⟨rfl,rfl⟩ ⟨rfl,rfl,rfl,rfl,rfl,rfl,rfl,rfl,rfl,rfl,rfl,rfl,rfl,trivial⟩ Sub.ent) | (have e:c=false:=(by rw[hc,hg8_1];rfl) ;rw[e] ;exact S.meet ⟨rfl,rfl⟩ ⟨rfl,rfl,rfl,rfl,rfl,rfl,rfl,rfl,rfl,rfl,rfl,rfl,rfl,trivial⟩ Sub.ent)
   ·refine ZY 8 ?_;refine ZY 8 ?_;refine ZY 3 ?_;first | (have e:c=decide (orI [cmpI u.n bu.n,cmpI (topR vl) (topR best)]<0):=(by rw[hc,hg8_1,hg8_4,cmpV,hun,hbu];rfl) ;rw[e] ;exact S.meet ⟨rfl,rfl⟩ ⟨rfl,rfl,rfl,rfl,rfl,rfl,rfl,rfl,rfl,rfl,rfl,rfl,rfl,trivial⟩ Sub.ent) | (have e:c=true:=(by rw[hc,hg8_1,hg8_4];rfl) ;rw[e] ;exact S.meet ⟨rfl,rfl⟩ ⟨rfl,rfl,rfl,rfl,rfl,rfl,rfl,rfl,rfl,rfl,rfl,rfl,rfl,trivial⟩ Sub.ent) | (have e:c=false:=(by rw[hc,hg8_1];rfl) ;rw[e] ;exact S.meet ⟨rfl,rfl⟩ ⟨rfl,rfl,rfl,rfl,rfl,rfl,rfl,rfl,rfl,rfl,rfl,rfl,rfl,trivial⟩ Sub.ent)
  ·rintro ρ' Γ' ⟨rfl,rfl⟩
   refine Zi ef (fun h2=>?_) (fun h2=>?_)
   ·rw[if_pos h2]at hstep;refine ZY 8 ?_;refine Zv (Za ef ef) ?_;refine ZY 2 ?_;first | exact ZX (q-1) ⟨i+1,u,vl,i,true,by omega,by omega,hstep,hun,by omega,hvm,rfl,rfl⟩ (by omega) | exact ZX (q-1) ⟨i+1,bu,best,row,found,by omega,by omega,hstep,hbu,hbl,hbm,rfl,rfl⟩ (by omega)
   ·rw[if_neg (by rw[h2];simp)]at hstep;refine ZY 2 ?_;refine Zv (Za ef ef) ?_;refine ZY 2 ?_;first | exact ZX (q-1) ⟨i+1,u,vl,i,true,by omega,by omega,hstep,hun,by omega,hvm,rfl,rfl⟩ (by omega) | exact ZX (q-1) ⟨i+1,bu,best,row,found,by omega,by omega,hstep,hbu,hbl,hbm,rfl,rfl⟩ (by omega)
 ·have hfin:choR m tier k l=(best,row,found):=by rw[choR,←hch,show i=m.R by omega]
  refine ZY 5 ?_;refine Zp (Zc1 Ze (jobs_S (own bu 152 2 (best.flatMap cdC)) bu best hbu hbl RdS.own) ?_);rintro v Θ ⟨u2,rfl,hu2,rfl⟩;refine Zv (q_build (pvs:=[(_,_),(_,_)]) [_,_] Tryz.z154.h Tryz.p154.h ⟨⟨rfl,rfl⟩,⟨rfl,rfl⟩,trivial⟩ rfl) ?_;refine Zy ?_;refine Zp (Zs ef ef (cs':=[_,_]) ef ?_);refine ZY 3 ?_;exact Zf ef Zq (⟨u2,by rw[hfin];rfl,by rw[hfin];exact hu2,by rw[hfin]⟩)
def reRow (js:List Jb) (j to_:Nat):List Jb:=js.map fun x=>if x.id=j then ⟨x.id,to_,x.ns⟩ else x
theorem reRow_ids (js:List Jb) (j t:Nat):(reRow js j t).map (·.id)=js.map (·.id):=by
 rw[reRow,List.map_map];refine List.map_congr_left fun x _=>?_;simp only[Function.comp];split <;> rfl
theorem ids_srt {js js':List Jb} (h:js'.map (·.id)=js.map (·.id)) (hs:js.Pairwise (fun a b=>a.id<b.id)):js'.Pairwise (fun a b=>a.id<b.id):=by
 have h1:(js.map (·.id)).Pairwise (· < ·):=List.pairwise_map.2 hs;rw[←h]at h1;exact List.pairwise_map.1 h1
theorem mem_reRow {js:List Jb} (hs:js.Pairwise (fun a b=>a.id<b.id)) {x:Jb} (hx:x∈js) (t:Nat) (y:Jb):y∈reRow js x.id t↔y=⟨x.id,t,x.ns⟩∨(y∈js∧y.id≠x.id):=by
 rw[reRow,List.mem_map]
 constructor
 ·rintro ⟨z,hz,rfl⟩
  by_cases e:z.id=x.id
  ·rw[if_pos e,id_inj hs hz hx e];exact .inl rfl
  ·rw[if_neg e];exact .inr ⟨hz,e⟩
 ·rintro (rfl | ⟨h1,h2⟩)
  ·exact⟨x,hx,if_pos rfl⟩
  ·exact⟨y,h1,if_neg h2⟩
theorem add_del {m:Mx} (hm:MxOk m) {x:Jb} (hx:x∈m.js) (t:Nat):(m.del x.id).add ⟨x.id,t,x.ns⟩={m with js:=reRow m.js x.id t}:=by
 have:addJ ⟨x.id,t,x.ns⟩ (delJ x.id m.js)=reRow m.js x.id t:=by
  refine srt_ext (addJ_srt (delJ_srt hm.srt) fun y hy=>(mem_delJ.1 hy).2) (ids_srt (reRow_ids _ _ _) hm.srt) fun y=>?_;rw[mem_addJ,mem_delJ,mem_reRow hm.srt hx]
 simp only[Mx.add,Mx.del,this]
theorem reRow_self {js:List Jb} (hs:js.Pairwise (fun a b=>a.id<b.id)) {x:Jb} (hx:x∈js):reRow js x.id x.row=js:=by
 refine(List.map_congr_left fun y hy=>?_).trans (List.map_id _)
 by_cases e:y.id=x.id
 ·rw[if_pos e,id_inj hs hy hx e];rfl
 ·rw[if_neg e];rfl
theorem okUp_lst (m:Mx) (s:Bs) (hs:∀i,s.getLsbD i=true→i<m.N):∀k,k≤(lst s).length→okUp m ((lst s).map fun i:Nat=>(i:Int)) k=true
 | 0,_=>rfl
 | k+1,hk=>by
  have hr:=List.pairwise_iff_getElem.1 (lst_rise s);have hk':k<(lst s).length:=by omega
  have e1:((lst s).map fun i:Nat=>(i:Int)).getD k 0=((lst s)[k]:Int):=by simp[List.getD,List.getElem?_eq_getElem hk']
  rw[okUp,okUp_lst m s hs k (by omega),e1,nodeB_iff.2 ⟨by omega,by have:=hs _ (mem_lst.1 (List.getElem_mem hk'));omega⟩,Bool.true_and,Bool.true_and,Bool.or_eq_true,decide_eq_true_eq,decide_eq_true_eq]
  by_cases e:k=0
  ·exact .inl e
  ·refine .inr ?_;have hk2:k-1<(lst s).length:=by omega
   have e2:((lst s).map fun i:Nat=>(i:Int)).getD (k-1) 0=((lst s)[k-1]:Int):=by simp[List.getD,List.getElem?_eq_getElem hk2]
   rw[e2];have:=hr (k-1) k hk2 hk' (by omega);omega
theorem nats_lst (s:Bs):nats ((lst s).map fun i:Nat=>(i:Int))=lst s:=by
 rw[nats,List.map_map];exact(List.map_congr_left fun i _=>by simp[Function.comp]).trans (List.map_id _)
theorem putR_back {m:Mx} (hm:MxOk m) {x:Jb} (hx:x∈m.js) (z:Int):putR (m.del x.id) x.id z ((lst x.ns).map fun i:Nat=>(i:Int)) =
  if rowB m z=false then (1,m.del x.id) else if tk (delJ x.id m.js) z.toNat &&& x.ns≠0#16 then (15,m.del x.id) else (0,{m with js:=reRow m.js x.id z.toNat}):=by
 have h1:=hm.id1 x hx
 have hl:0<(lst x.ns).length:=by
  cases e:lst x.ns with
  | nil=>exact absurd (lst_nil.1 e) (hm.some x hx)
  | cons a l=>simp
 have hok:okUp (m.del x.id) ((lst x.ns).map fun i:Nat=>(i:Int)) ((lst x.ns).map fun i:Nat=>(i:Int)).length=true:=by
  rw[List.length_map];exact okUp_lst (m.del x.id) x.ns (fun i hi=>hm.ns x hx i hi) _ (Nat.le_refl _)
 have hp:putOk (m.del x.id) x.id z ((lst x.ns).map fun i:Nat=>(i:Int))=rowB m z:=by
  rw[putOk,List.length_map,decide_eq_true (show ((x.id:Nat):Int)≠0 by omega),decide_eq_true (show (((lst x.ns).length:Nat):Int) > 0 by omega),Bool.true_and,Bool.and_true];rfl
 have hlk:look (m.del x.id).js x.id=none:=by
  cases e:look (m.del x.id).js x.id with
  | none=>rfl
  | some y=>obtain⟨q1,q2⟩:=look_some e;exact absurd q2 (mem_delJ.1 q1).2
 rw[putR,hp,hok,Bool.and_true,hlk,nats_lst,ofL_lst]
 by_cases e:rowB m z=false
 ·rw[if_pos e,if_pos e]
 ·rw[if_neg e,if_neg e,←add_del hm hx];rfl
def canMove (m:Mx) (x:Jb) (z:Int):Bool:=rowB m z&&decide (tk (delJ x.id m.js) z.toNat &&& x.ns=0#16)
def moveR (m:Mx) (j:Nat) (z:Int):Option (Nat×Int×Int)×Mx:=match look m.js j with
 | none=>(none,m)
 | some x=>if canMove m x z then (some (j,(x.row:Int),z),{m with js:=reRow m.js j z.toNat}) else (none,m)
theorem MxOk.ofReRow {m:Mx} (hm:MxOk m) {x:Jb} (hx:x∈m.js) {t:Nat} (ht:t<m.R) (hd:tk (delJ x.id m.js) t &&& x.ns=0#16):MxOk {m with js:=reRow m.js x.id t}:=by
 rw[←add_del hm hx];exact(hm.del x.id).add (fun y hy=>(mem_delJ.1 hy).2) (hm.id1 x hx) (hm.id2 x hx) ht (hm.some x hx) (hm.ns x hx) hd
theorem moveR_ok {m:Mx} (hm:MxOk m) (j:Nat) (z:Int):MxOk (moveR m j z).2:=by
 unfold moveR;cases h:look m.js j with
 | none=>exact hm
 | some x=>
  obtain⟨h1,h2⟩:=look_some h;simp only
  by_cases hc:canMove m x z=true
  ·rw[if_pos hc];rw[canMove,Bool.and_eq_true,decide_eq_true_eq]at hc;have hr:=rowB_iff.1 hc.1;rw[←h2];exact hm.ofReRow h1 (by omega) hc.2
  ·rw[if_neg hc];exact hm
abbrev Mv:=Nat×Int×Int
def repTry (m:Mx) (j:Nat):Nat→Option (Mv×Mx)
 | 0=>none
 | i+1=>match repTry m j i with
  | some r=>some r
  | none=>match moveR m j i with
   | (some x,m')=>some (x,m')
   | (none,_)=>none
def repRow (j:Nat) (ids:List Nat) (a:Mx×List Mv):Nat→Mx×List Mv
 | 0=>a
 | q+1=>match repTry (repRow j ids a q).1 (ids.getD q 0) j with
  | some r=>(r.2,(repRow j ids a q).2++[r.1])
  | none=>repRow j ids a q
def repUp (m:Mx):Nat→Mx×List Mv
 | 0=>(m,[])
 | k+1=>repRow (k+1) (rowIds (repUp m k).1 ((k+1:Nat):Int)) (repUp m k) (rowIds (repUp m k).1 ((k+1:Nat):Int)).length
def repackR (m:Mx):Mx×List Mv:=repUp m (m.R-1)
theorem moveR_N (m:Mx) (j:Nat) (z:Int):(moveR m j z).2.R=m.R∧(moveR m j z).2.N=m.N∧(moveR m j z).2.up=m.up:=by
 unfold moveR;cases look m.js j with
 | none=>exact⟨rfl,rfl,rfl⟩
 | some x=>simp only;split <;> exact⟨rfl,rfl,rfl⟩
theorem moveR_some {m:Mx} {j:Nat} {z:Int} {x:Mv} {m':Mx} (h:moveR m j z=(some x,m')):∃y,look m.js j=some y∧canMove m y z=true∧x=(j,(y.row:Int),z)∧m'={m with js:=reRow m.js j z.toNat}:=by
 unfold moveR at h;cases hl:look m.js j with
 | none=>rw[hl]at h;simp at h
 | some y=>
  rw[hl]at h;simp only at h
  by_cases hc:canMove m y z=true
  ·rw[if_pos hc]at h;simp only[Prod.mk.injEq,Option.some.injEq]at h;exact⟨y,rfl,hc,h.1.symm,h.2.symm⟩
  ·rw[if_neg hc]at h;simp at h
theorem moveR_none {m:Mx} {j:Nat} {z:Int} {m':Mx} (h:moveR m j z=(none,m')):m'=m∧∀y,look m.js j=some y→canMove m y z=false:=by
 unfold moveR at h;cases hl:look m.js j with
 | none=>rw[hl]at h;simp only[Prod.mk.injEq,true_and]at h;exact⟨h.symm,fun y hy=>by cases hy⟩
 | some y=>
  rw[hl]at h;simp only at h
  by_cases hc:canMove m y z=true
  ·rw[if_pos hc]at h;simp at h
  ·rw[if_neg hc]at h;simp only[Prod.mk.injEq,true_and]at h;exact⟨h.symm,fun y' hy'=>by cases hy';simpa using hc⟩
theorem rowIds_eq {m:Mx} {f:Nat} (hf:f<m.R):rowIds m f=(rowJ m f).map (·.id):=by rw[rowIds,if_pos (rowB_iff.2 ⟨by omega,by omega⟩),Int.toNat_natCast]
theorem mem_rowIds {m:Mx} (hm:MxOk m) {f:Nat} (hf:f<m.R) {j:Nat}:j∈rowIds m f↔∃x∈m.js,x.row=f∧x.id=j:=by
 rw[rowIds_eq hf,List.mem_map]
 constructor
 ·rintro ⟨x,hx,rfl⟩;exact⟨x,((mem_rowJ hm).1 hx).1,((mem_rowJ hm).1 hx).2,rfl⟩
 ·rintro ⟨x,h1,h2,rfl⟩;exact⟨x,(mem_rowJ hm).2 ⟨h1,h2⟩,rfl⟩
abbrev casts (l:List Nat):List Int:=l.map fun i:Nat=>(i:Int)
theorem rdNds (s:SV) (T:TypeId) (l:List Nat):RdS (own s T 1 (nds l)) s s.n 1 (ints (casts l)):=by
 have e:ints (casts l)=nds l:=by simp
 rw[e];exact RdS.own
theorem idsV_get {l:List Nat} {i x:Nat} (h:l[i]?=some x):(idsV l)[i]?=some (.int .u32 (x:Int)):=by
 show (l.map _)[i]?=_;rw[List.getElem?_map,h];rfl
abbrev mvC (x:Mv):List Value:=[.int .u32 (x.1:Int),.int .i64 x.2.1,.int .i64 x.2.2]
abbrev mvV (x:Mv):Value:=.agg #[.int .u32 (x.1:Int),.int .i64 x.2.1,.int .i64 x.2.2]
def mvR (o:Option Mv):Mv:=o.getD (0,0,0)
theorem putR_move {m:Mx} (hm:MxOk m) {x:Jb} (hx:x∈m.js) (z:Int):(canMove m x z=true→putR (m.del x.id) x.id z ((lst x.ns).map fun i:Nat=>(i:Int))=(0,{m with js:=reRow m.js x.id z.toNat})) ∧
  (canMove m x z=false→∃e:Int,e≠0∧putR (m.del x.id) x.id z ((lst x.ns).map fun i:Nat=>(i:Int))=(e,m.del x.id)):=by
 rw[putR_back hm hx]
 constructor
 ·intro h;rw[canMove,Bool.and_eq_true,decide_eq_true_eq]at h;rw[if_neg (by rw[h.1];simp),if_neg (fun e=>e h.2)]
 ·intro h
  by_cases h1:rowB m z=false
  ·rw[if_pos h1];exact⟨1,by omega,rfl⟩
  ·rw[if_neg h1]
   by_cases h2:tk (delJ x.id m.js) z.toNat &&& x.ns≠0#16
   ·rw[if_pos h2];exact⟨15,by omega,rfl⟩
   ·exfalso;rw[canMove,show rowB m z=true by simpa using h1,decide_eq_true (Classical.byContradiction h2)]at h;cases h
theorem putR_home {m:Mx} (hm:MxOk m) {x:Jb} (hx:x∈m.js):putR (m.del x.id) x.id (x.row:Int) ((lst x.ns).map fun i:Nat=>(i:Int))=(0,m):=by
 have hr:=hm.row x hx
 have hc:canMove m x (x.row:Int)=true:=by
  rw[canMove,rowB_iff.2 ⟨by omega,by omega⟩,Bool.true_and,decide_eq_true_eq,Int.toNat_natCast,tk_delJ hm hx,if_pos rfl];refine BitVec.eq_of_getLsbD_eq fun i _=>?_;rw[BitVec.getLsbD_and,BitVec.getLsbD_and,BitVec.getLsbD_not];cases x.ns.getLsbD i <;> simp
 rw[(putR_move hm hx _).1 hc,Int.toNat_natCast,reRow_self hm.srt hx]
theorem move_S (b:Nat) (m:Mx) (j:Nat) (z:Int) (hj:j≤4294967295) {W:World} (hW:TabW W):Spec Tryz.prog 86 [.pointer (some ⟨b,0,none⟩),.int .u32 (j:Int),.int .i64 z] [MI b m,old W] fun Γ v Θ=>v=.tuple #[mvV (mvR (moveR m j z).1),.bool (moveR m j z).1.isSome]∧Θ=MI b (moveR m j z).2::old W::Γ:=by
 refine Spec.miOk fun hok=>?_;refine Zbd Tryz.func86 rfl Tryz.ntmps86 fun w0 Γ=>Zsh ?_;refine ZY 2 ?_;refine Zp (S.alloc Tryz.z161.h rfl ?_);intro b6;refine ZY 6 ?_;refine Zp (Zc1 Ze (Of_S b m j hW) ?_);rintro v Θ ⟨sv,rfl,hsv,rfl⟩;refine ZY 8 ?_;refine ZY 6 ?_
 refine Zi ef (fun h1=>?_) (fun h1=>?_)
 ·have hn:look m.js j=none:=by cases h:look m.js j with | none=>rfl | some x=>rw[ofR_some h]at h1;cases h1
  have hmv:moveR m j z=(none,m):=by simp only[moveR,hn]
  refine ZY 2 ?_;refine Zv (q_build (pvs:=[]) [_,_,_] Tryz.z161.h Tryz.p161.h trivial rfl) ?_;refine Zp (Zs ef ef (cs':=[_,_,_]) ef ?_);refine ZY 3 ?_;exact Zf ef Zq (⟨by rw[hmv];rfl,by rw[hmv]⟩)
 ·obtain⟨x,hx⟩:∃x,look m.js j=some x:=by cases h:look m.js j with | none=>rw[ofR_none h]at h1;cases h1 | some x=>exact⟨x,rfl⟩
  obtain⟨hxm,hxj⟩:=look_some hx;rw[ofR_some hx]at hsv ⊢;simp only at hsv ⊢;refine ZY 5 ?_;refine Zp (Zcp Ze (Remove_S b m j) ?_);rw[removeR_some hx];refine ZY 8 ?_;refine Zp (Zcp Ze (Put_S b (m.del j) j z (own sv 3 1 (nds (lst x.ns))) sv (casts (lst x.ns)) (by rw[hsv,List.length_map]) (rdNds sv 3 (lst x.ns)) hj) ?_);refine ZY 2 ?_
  refine Zj ef (fun h2=>?_) (fun h2=>?_)
  ·have hcm:canMove m x z=false:=by
    cases h:canMove m x z with
    | false=>rfl
    | true=>
     have h9:=(putR_move hok hxm z).1 h;rw[hxj]at h9;exact absurd (by rw[h9]) h2
   obtain⟨e,_,he⟩:=(putR_move hok hxm z).2 hcm;rw[hxj]at he;have hhome:=putR_home hok hxm;rw[hxj]at hhome;have hmv:moveR m j z=(none,m):=by simp only[moveR,hx];rw[if_neg (by rw[hcm];simp)]
   rw[he];refine ZY 6 ?_;refine Zp (Zcp Ze (Put_S b (m.del j) j (x.row:Int) (own sv 3 1 (nds (lst x.ns))) sv (casts (lst x.ns)) (by rw[hsv,List.length_map]) (rdNds sv 3 (lst x.ns)) hj) ?_);rw[hhome];refine ZY 3 ?_;refine Zv (q_build (pvs:=[]) [_,_,_] Tryz.z161.h Tryz.p161.h trivial rfl) ?_;refine Zp (Zs ef ef (cs':=[_,_,_]) ef ?_);refine ZY 3 ?_;exact Zf ef Zq (⟨by rw[hmv];rfl,by rw[hmv]⟩)
  ·have hcm:canMove m x z=true:=by
    cases h:canMove m x z with
    | true=>rfl
    | false=>
     obtain⟨e,h8,h9⟩:=(putR_move hok hxm z).2 h;rw[hxj]at h9;exact absurd (by rw[h9];exact h8) h2
   have hp:=(putR_move hok hxm z).1 hcm;rw[hxj]at hp;have hmv:moveR m j z=(some (j,(x.row:Int),z),{m with js:=reRow m.js j z.toNat}):=by simp only[moveR,hx];rw[if_pos hcm]
   rw[hp];refine ZY 6 ?_;refine Zv (q_build (pvs:=[(_,_),(_,_),(_,_)]) [_,_,_] Tryz.z161.h Tryz.p161.h ⟨⟨rfl,rfl⟩,⟨rfl,rfl⟩,⟨rfl,rfl⟩,trivial⟩ rfl) ?_;refine Zp (Zs ef ef (cs':=[_,_,_]) ef ?_);refine ZY 3 ?_;exact Zf ef Zq (⟨by rw[hmv];rfl,by rw[hmv]⟩)
theorem rowsCount_S (b:Nat) (m:Mx):Spec Tryz.prog 84 [.pointer (some ⟨b,0,none⟩)] [MI b m] fun Γ v Θ=>v=.int .i64 (m.R:Int)∧Θ=MI b m::Γ:=by
 refine Zbd Tryz.func84 rfl Tryz.ntmps84 fun w0 Γ=>Zsh ?_;refine ZY 7 ?_;refine Zp (Zcp Ze (Size_S b m) ?_);refine ZY 8 ?_;refine ZY 4 ?_;exact Zf ef Zq (⟨rfl,rfl⟩)
theorem rowIds_len (m:Mx) (z:Int):(rowIds m z).length≤16:=by
 unfold rowIds
 split
 ·rw[List.length_map];exact rowJ_len m _
 ·simp
theorem repTry_none {m:Mx} {j:Nat}:∀ {p:Nat},repTry m j p=none→∀i,i<p→(moveR m j i).1=none
 | 0,_,i,hi=>by omega
 | p+1,h,i,hi=>by
  rw[repTry]at h;cases hr:repTry m j p with
  | some r=>rw[hr]at h;cases h
  | none=>
   rw[hr]at h;simp only at h;cases hv:moveR m j p with
   | mk x m'=>
    rw[hv]at h;cases x with
    | some x=>cases h
    | none=>
     by_cases e:i=p
     ·rw[e,hv]
     ·exact repTry_none hr i (by omega)
theorem repTry_mono {m:Mx} {j:Nat} {r:Mv×Mx}:∀ {p q:Nat},repTry m j p=some r→p≤q→repTry m j q=some r
 | p,0,h,hq=>by rwa [show p=0 by omega]at h
 | p,q+1,h,hq=>by
  by_cases e:p=q+1
  ·rwa [e]at h
  ·rw[repTry,repTry_mono h (by omega)]
theorem repTry_some {m:Mx} (hm:MxOk m) {j:Nat} {r:Mv×Mx}:∀ {p:Nat},repTry m j p=some r→MxOk r.2∧r.2.R=m.R∧∃i,i<p∧moveR m j i=(some r.1,r.2)
 | 0,h=>by cases h
 | p+1,h=>by
  rw[repTry]at h;cases hr:repTry m j p with
  | some r'=>
   rw[hr]at h;simp only[Option.some.injEq]at h;subst h;obtain⟨h1,h2,i,h3,h4⟩:=repTry_some hm hr;exact⟨h1,h2,i,by omega,h4⟩
  | none=>
   rw[hr]at h;simp only at h;cases hv:moveR m j p with
   | mk x m'=>
    rw[hv]at h;cases x with
    | none=>cases h
    | some x=>
     simp only[Option.some.injEq]at h;subst h;have h1:=moveR_ok hm j p;have h2:=(moveR_N m j p).1;rw[hv]at h1 h2;exact⟨h1,h2,p,by omega,hv⟩
theorem Repack_S (b:Nat) (m:Mx) {W:World} (hW:TabW W):Spec Tryz.prog 45 [.pointer (some ⟨b,0,none⟩)] [MI b m,old W] fun Γ v Θ=>∃(c:Nat) (sv:SV),v=.tuple #[.pointer (some ⟨c,0,none⟩),sv.v]∧sv.n=(repackR m).2.length ∧
  Θ=own sv 161 3 ((repackR m).2.flatMap mvC)::MI c (repackR m).1::MI b m::old W::Γ:=by
 refine Spec.miOk fun hok=>?_;refine Zbd Tryz.func45 rfl Tryz.ntmps45 fun w0 Γ=>Zsh ?_;have hR8:=hok.R8;have hR1:=hok.R1;refine ZY 8 ?_;refine Zp (Zc1 Ze (Copy_S b m) ?_);rintro v Θ ⟨c,rfl,rfl⟩;refine ZY 8 ?_;refine Zy ?_;refine S.ent (Ent.ownNil 161 3) ?_;show S _ w0 _ (own SV.nil 161 3 (([]:List Mv).flatMap mvC)::_) _;refine ZY 3 ?_;refine Zl (fun q ρ' Γ'=>∃(j k:Nat) (sv:SV) (xs:List Mv) (mm:Mx),q=m.R-j∧j=k+1∧j≤m.R∧repUp m k=(mm,xs)∧MxOk mm∧mm.R=m.R∧xs.length≤16*k∧sv.n=xs.length∧ρ'=[(4,.pointer (some ⟨c,0,none⟩)),(5,sv.v),(6,.int .i64 (j:Int))] ∧   Γ'=own sv 161 3 (xs.flatMap mvC)::MI c mm::MI b m::old W::Γ) (m:=_) (⟨1,0,SV.nil,[],m,rfl,rfl,by omega,rfl,hok,rfl,Nat.le_refl _,rfl,rfl,rfl⟩) ?_;rintro q ρ' Γ' ⟨j,k,sv,xs,mm,hq,hjk,hj,hru,hmo,hmR,hxl,hsv,rfl,rfl⟩;refine ZY 5 ?_;refine Zp (Zcp Ze (rowsCount_S c mm) ?_);rw[hmR];refine ZY 2 ?_
 refine Zj ef (fun h1=>?_) (fun h1=>?_)
 ·obtain⟨ids,hids⟩:∃ids,ids=rowIds mm j:=⟨_,rfl⟩;have h16:=rowIds_len mm j;rw[←hids]at h16
  have hidj:∀y∈ids,y≤4294967295:=fun y hy=>by
   rw[hids]at hy;obtain⟨x,h1,_,h3⟩:=(mem_rowIds hmo (by omega)).1 hy;rw[←h3];exact hmo.id2 x h1
  have hru2:repUp m (k+1)=repRow j ids (mm,xs) ids.length:=by rw[repUp,hru,hids,hjk]
  refine ZY 7 ?_;refine Zp (Zc1 Ze (Row_S c mm j hW) ?_);rintro v Θ ⟨rv,rfl,hrv,rfl⟩;rw[←hids]at hrv ⊢;refine ZY 4 ?_;refine Zl (fun q2 ρ' Γ'=>∃(p:Nat) (s2:SV) (ys:List Mv) (m2:Mx),q2=ids.length-p∧p≤ids.length∧repRow j ids (mm,xs) p=(m2,ys)∧MxOk m2∧m2.R=m.R∧ys.length≤16*k+p∧s2.n=ys.length∧ρ'=[(4,.pointer (some ⟨c,0,none⟩)),(5,s2.v),(6,.int .i64 (j:Int)),(22,rv.v),(23,.int .i64 rv.n),(24,.int .i64 (p:Int))] ∧   Γ'=own s2 161 3 (ys.flatMap mvC)::own rv 31 1 (idsV ids)::MI c m2::MI b m::old W::Γ) (m:=_) (⟨0,sv,xs,mm,rfl,by omega,rfl,hmo,hmR,by omega,hsv,rfl,rfl⟩) ?_;rintro q2 ρ' Γ' ⟨p,s2,ys,m2,hq2,hp,hrr,hm2,hm2R,hyl,hs2,rfl,rfl⟩;refine ZY 5 ?_
  refine Zj ef (fun h2=>?_) (fun h2=>?_)
  ·refine S.ownSome rv (by omega) fun rb rf hra _ _ _=>?_;obtain⟨y,hy⟩:=getE (show p<ids.length by omega);have hyd:ids.getD p 0=y:=by simp[List.getD,hy]
   have hy32:=hidj y (List.mem_of_getElem? hy);refine ZY 2 ?_
   refine Zc (fun ρ' Γ'=>∃(s2':SV) (ys':List Mv) (m2':Mx),repRow j ids (mm,xs) (p+1)=(m2',ys')∧MxOk m2'∧m2'.R=m.R∧ys'.length≤16*k+(p+1)∧s2'.n=ys'.length∧ρ'=[(4,.pointer (some ⟨c,0,none⟩)),(5,s2'.v),(6,.int .i64 (j:Int)),(22,rv.v),(23,.int .i64 rv.n),(24,.int .i64 (p:Int))] ∧   Γ'=own s2' 161 3 (ys'.flatMap mvC)::own rv 31 1 (idsV ids)::MI c m2'::MI b m::old W::Γ) ?_ ?_
   ·refine ZY 3 ?_;refine Zv (Zx (p) ef (hra) ef (by omega)) ?_;refine Zv (Zo (rv) (p) ef (hra) (idsV_get hy)) ?_;refine ZY 8 ?_;refine Zl (fun q3 ρ' Γ'=>∃i:Nat,q3=j-i∧i≤j∧repTry m2 y i=none∧ρ'=[(4,.pointer (some ⟨c,0,none⟩)),(5,s2.v),(6,.int .i64 (j:Int)),(8,.int .u32 (y:Int)),(22,rv.v),(23,.int .i64 rv.n),(24,.int .i64 (p:Int)),(28,.int .i64 (j:Int)),(29,.int .i64 (i:Int))] ∧   Γ'=own s2 161 3 (ys.flatMap mvC)::own rv 31 1 (idsV ids)::MI c m2::MI b m::old W::Γ) (m:=_) (⟨0,rfl,by omega,rfl,rfl,rfl⟩) ?_;rintro q3 ρ' Γ' ⟨i,hq3,hi,htr,rfl,rfl⟩;refine ZY 5 ?_
    refine Zj ef (fun h3=>?_) (fun h3=>?_)
    ·refine ZY 8 ?_;refine ZY 5 ?_;refine Zp (Zcp Ze (move_S c m2 y i hy32 hW) ?_);refine ZY 3 ?_;refine Zp (S.alloc Tryz.z161.h rfl ?_);intro b10;refine Zp (Zs ef ef (cs':=[_,_,_]) ef ?_);refine ZY 6 ?_
     refine Zi ef (fun h4=>?_) (fun h4=>?_)
     ·obtain⟨x,m3,hv⟩:∃x m3,moveR m2 y i=(some x,m3):=by
       cases hv:moveR m2 y i with
       | mk x m'=>
        rw[hv]at h4;cases x with
        | none=>cases h4
        | some x=>exact⟨x,m',rfl⟩
      have htr2:repTry m2 y (i+1)=some (x,m3):=by rw[repTry,htr];simp only[hv]
      have htr3:=repTry_mono htr2 (show i+1≤j by omega);have hrr2:repRow j ids (mm,xs) (p+1)=(m3,ys++[x]):=by rw[repRow,hrr,hyd,htr3]
      obtain⟨hm3,hm3R,_⟩:=repTry_some hm2 htr3;have hm3R2:m3.R=m.R:=hm3R.trans hm2R;rw[hv];simp only[mvR,Option.getD_some];refine ZY 4 ?_;refine Zp (S.buildSlice (pvs:=[(_,_)]) [_,_,_] Tryz.underlying92 Tryz.inf161.h rfl rfl ⟨⟨rfl,rfl⟩,trivial⟩ rfl rfl ?_);intro b42;refine Zp (S.appendOw (s:=s2) (1) (mvC x) Tryz.underlying92 Tryz.inf161.h rfl rfl rfl (blk_slAt (b:=b42) rfl (by unfold maxLen;omega)) (by first | rfl | exact allOne_bcells _) (⟨by omega,by omega⟩) rfl ?_);intro s4 hs4;refine ZY 3 ?_;first | (rw[flat_snoc mvC ys x];exact S.meet ⟨s4,ys++[x],m3,hrr2,hm3,hm3R2,by rw[List.length_append,List.length_singleton];omega,by rw[List.length_append,List.length_singleton];omega,rfl,rfl⟩ ⟨rfl,rfl,rfl,rfl,rfl,rfl,trivial⟩ Sub.ent) | exact S.meet ⟨s2,ys,m2,hrr2,hm2,hm2R,by omega,hs2,rfl,rfl⟩ ⟨rfl,rfl,rfl,rfl,rfl,rfl,trivial⟩ Sub.ent
     ·have htr2:repTry m2 y (i+1)=none∧(moveR m2 y i).2=m2:=by
       cases hv:moveR m2 y i with
       | mk x m'=>
        rw[hv]at h4;cases x with
        | some x=>cases h4
        | none=>exact⟨by rw[repTry,htr];simp only[hv],(moveR_none hv).1⟩
      rw[htr2.2];refine ZY 2 ?_;refine Zv (Za ef ef) ?_;refine ZY 2 ?_;exact ZX (q3-1) (⟨i+1,by omega,by omega,htr2.1,rfl,rfl⟩) (by omega)
    ·have hij:i=j:=by omega
     rw[hij]at htr;have hrr2:repRow j ids (mm,xs) (p+1)=(m2,ys):=by rw[repRow,hrr,hyd,htr]
     refine Zy ?_;first | (rw[flat_snoc mvC ys x];exact S.meet ⟨s4,ys++[x],m3,hrr2,hm3,hm3R2,by rw[List.length_append,List.length_singleton];omega,by rw[List.length_append,List.length_singleton];omega,rfl,rfl⟩ ⟨rfl,rfl,rfl,rfl,rfl,rfl,trivial⟩ Sub.ent) | exact S.meet ⟨s2,ys,m2,hrr2,hm2,hm2R,by omega,hs2,rfl,rfl⟩ ⟨rfl,rfl,rfl,rfl,rfl,rfl,trivial⟩ Sub.ent
   ·rintro ρ' Γ' ⟨s2',ys',m2',hrr',hm2',hm2R',hyl',hs2',rfl,rfl⟩;refine Zy ?_;refine Zv (Za ef ef) ?_;refine ZY 2 ?_;exact ZX (q2-1) (⟨p+1,s2',ys',m2',by omega,by omega,hrr',hm2',hm2R',hyl',hs2',rfl,rfl⟩) (by omega)
  ·have hpl:p=ids.length:=by omega
   rw[hpl]at hrr;rw[hrr]at hru2;refine ZY 3 ?_;refine Zv (Za ef ef) ?_;refine ZY 2 ?_;exact ZX (q-1) (⟨j+1,k+1,s2,ys,m2,by omega,by omega,by omega,hru2,hm2,hm2R,by omega,hs2,rfl,rfl⟩) (by omega)
 ·have hfin:repackR m=(mm,xs):=by rw[repackR,show m.R-1=k by omega,hru]
  refine ZY 8 ?_;refine Zy ?_;exact Zf ef Zq (⟨c,sv,rfl,by rw[hfin];exact hsv,by rw[hfin]⟩)
end Go.Proofs.YtdackcibfkkniaaGreatDoor
namespace Go.Proofs.YtdackcibfkkniaaGreatDoor
namespace PR
open Go.RowKit
structure It where
 id:Int
 tier:Int
 since:Int
 deriving DecidableEq
instance:Inhabited It:=⟨⟨0,0,0⟩⟩
abbrev itC (x:It):List Value:=[.int .u32 x.id,.int .u8 x.tier,.int .u32 x.since]
theorem itC_len:∀x,(itC x).length=3:=fun _=>rfl
def cmpI (a b:Int):Int:=if a<b then -1 else if b<a then 1 else 0
def bf (a b:It):Bool:=decide (b.tier<a.tier∨(a.tier=b.tier∧(a.since<b.since∨(a.since=b.since∧a.id<b.id))))
theorem bf_irr (a:It):bf a a=false:=decide_eq_false (by omega)
theorem bf_tr {a b c:It} (h1:bf a b=true) (h2:bf b c=true):bf a c=true:=by
 simp only[bf,decide_eq_true_eq]at *;omega
theorem bf_as {a b:It} (h1:bf a b=true):bf b a=false:=by
 simp only[bf,decide_eq_true_eq,decide_eq_false_iff_not]at *;omega
theorem bf_nt {a b c:It} (h1:bf a b=false) (h2:bf b c=false):bf a c=false:=by
 simp only[bf,decide_eq_false_iff_not]at *;omega
theorem bf_tot {a b:It} (h:a.id≠b.id):bf a b=true∨bf b a=true:=by
 simp only[bf,decide_eq_true_eq];omega
theorem isNaN8_P (x:Int) (W:World):PureS Tryz.prog 201 [.int .u8 x] W (.bool false):=by
 refine Zbd Tryz.func201 rfl Tryz.ntmps201 fun w0 Γ=>Zsh ?_;refine ZY 8 ?_;refine ZY 4 ?_;exact Zf ef Zq (⟨by simp only[resV];rw[decide_eq_false (fun h=>h rfl)],rfl⟩)
theorem isNaN32_P (x:Int) (W:World):PureS Tryz.prog 192 [.int .u32 x] W (.bool false):=by
 refine Zbd Tryz.func192 rfl Tryz.ntmps192 fun w0 Γ=>Zsh ?_;refine ZY 8 ?_;refine ZY 4 ?_;exact Zf ef Zq (⟨by simp only[resV];rw[decide_eq_false (fun h=>h rfl)],rfl⟩)
theorem Compare8_P (x y:Int) (W:World):PureS Tryz.prog 170 [.int .u8 x,.int .u8 y] W (.int .i64 (cmpI x y)):=by
 refine Zbd Tryz.func170 rfl Tryz.ntmps170 fun w0 Γ=>Zsh ?_;refine ZY 7 ?_;refine Zp (S.callP Eo.h (vs:=[_]) ⟨rfl,trivial⟩ (fun w hs=>isNaN8_P x w) rfl ?_);refine ZY 5 ?_;refine Zp (S.callP Eo.h (vs:=[_]) ⟨rfl,trivial⟩ (fun w hs=>isNaN8_P y w) rfl ?_);refine ZY 7 ?_;refine ZF ef ?_;refine ZY 6 ?_;refine ZF ef ?_;refine ZY 8 ?_
 refine Zj ef (fun h4=>?_) (fun h4=>?_)
 ·refine ZY 5 ?_;exact Zf ef Zq (⟨by simp only[resV,cmpI];rw[if_pos (by assumption)],rfl⟩)
 ·refine ZY 8 ?_
  refine Zj ef (fun h5=>?_) (fun h5=>?_)
  ·refine ZY 5 ?_;exact Zf ef Zq (⟨by simp only[resV,cmpI];rw[if_neg (by assumption),if_pos (by assumption)],rfl⟩)
  ·refine ZY 6 ?_;exact Zf ef Zq (⟨by simp only[resV,cmpI];rw[if_neg (by assumption),if_neg (by assumption)],rfl⟩)
theorem Compare32_P (x y:Int) (W:World):PureS Tryz.prog 171 [.int .u32 x,.int .u32 y] W (.int .i64 (cmpI x y)):=by
 refine Zbd Tryz.func171 rfl Tryz.ntmps171 fun w0 Γ=>Zsh ?_;refine ZY 7 ?_;refine Zp (S.callP Eo.h (vs:=[_]) ⟨rfl,trivial⟩ (fun w hs=>isNaN32_P x w) rfl ?_);refine ZY 5 ?_;refine Zp (S.callP Eo.h (vs:=[_]) ⟨rfl,trivial⟩ (fun w hs=>isNaN32_P y w) rfl ?_);refine ZY 7 ?_;refine ZF ef ?_;refine ZY 6 ?_;refine ZF ef ?_;refine ZY 8 ?_
 refine Zj ef (fun h4=>?_) (fun h4=>?_)
 ·refine ZY 5 ?_;exact Zf ef Zq (⟨by simp only[resV,cmpI];rw[if_pos (by assumption)],rfl⟩)
 ·refine ZY 8 ?_
  refine Zj ef (fun h5=>?_) (fun h5=>?_)
  ·refine ZY 5 ?_;exact Zf ef Zq (⟨by simp only[resV,cmpI];rw[if_neg (by assumption),if_pos (by assumption)],rfl⟩)
  ·refine ZY 6 ?_;exact Zf ef Zq (⟨by simp only[resV,cmpI];rw[if_neg (by assumption),if_neg (by assumption)],rfl⟩)
def orI:List Int→Int
 | []=>0
 | x::l=>if x≠0 then x else orI l
abbrev ints (l:List Int):List Value:=l.map (Value.int .i64)
theorem Or_P (s:SV) (l:List Int) (W:World) (hn:s.n=l.length) (h0:SlAt W s.v l.length 1 (ints l)):PureS Tryz.prog 121 [s.v] W (.int .i64 (orI l)):=by
 have hm0:=slAt_cap h0;unfold maxLen at hm0;refine Zbd Tryz.func121 rfl Tryz.ntmps121 fun w0 Γ=>Zsh ?_;refine ZY 8 ?_;refine ZY 8 ?_;refine Zl (fun m ρ' Γ'=>∃k:Nat,m+k=l.length∧orI l=orI (l.drop k)∧ρ'=[(3,.int .i64 0),(6,s.v),(7,.int .i64 s.n),(8,.int .i64 k)]∧Γ'=old W::Γ) (m:=_) (⟨0,rfl,rfl,rfl,rfl⟩) ?_;rintro m ρ' Γ' ⟨k,hmk,hor,rfl,rfl⟩;refine ZY 5 ?_
 refine Zj ef (fun h1=>?_) (fun h1=>?_)
 ·obtain⟨x,hx⟩:=getE (l:=l) (i:=k) (by omega);obtain⟨b,off,hb,hcell⟩:=slAt_some h0 (by omega)
  have hxd:l.drop k=x::l.drop (k+1):=by
   have hkl:=(List.getElem?_eq_some_iff.1 hx);rw[List.drop_eq_getElem_cons hkl.1,hkl.2]
  refine ZY 5 ?_;refine Zv (Zx (k) ef (hb) ef (by omega)) ?_;refine Zv (q_loadW Eo.h rfl (hcell _ _ (by rw[Nat.mul_one,List.getElem?_map,hx];rfl))) ?_;refine ZY 8 ?_
  refine Zj ef (fun h2=>?_) (fun h2=>?_)
  ·refine ZY 6 ?_;exact Zf ef Zq (⟨by simp only[resV];rw[hor,hxd,orI,if_pos (by assumption)],rfl⟩)
  ·refine ZY 2 ?_;refine Zv (Za ef ef) ?_;refine ZY 2 ?_;exact ZX (m-1) (⟨k+1,by omega,by rw[hor,hxd,orI,if_neg (by assumption)],rfl,rfl⟩) (by omega)
 ·refine ZY 7 ?_;exact Zf ef Zq (⟨by simp only[resV];rw[hor,List.drop_eq_nil_of_le (by omega),orI],rfl⟩)
def ordI (a b:It):Int:=orI [cmpI b.tier a.tier,cmpI a.since b.since,cmpI a.id b.id]
theorem ordI_bf (a b:It):decide (ordI a b<0)=bf a b:=by
 unfold ordI orI orI orI orI cmpI bf;refine decide_eq_decide.2 ?_;split <;> split <;> (try split) <;> (try split) <;> (try split) <;> (try split) <;> omega
set_option maxRecDepth 20000 in
theorem order_P (x y:It) (W:World):PureS Tryz.prog 143 [.agg (itC x).toArray,.agg (itC y).toArray] W (.int .i64 (ordI x y)):=by
 refine Zbd Tryz.func143 rfl Tryz.ntmps143 fun w0 Γ=>Zsh ?_;refine ZY 2 ?_;refine Zp (S.box (cs:=[_,_,_]) rfl rfl rfl ?_);intro b2;refine Zp (S.box (cs:=[_,_,_]) rfl rfl rfl ?_);intro b3;refine ZY 3 ?_;refine Zd ([blk b2 183 (itC x).toArray,blk b3 183 (itC y).toArray]) [] [0,1,2,3,5,6,7,8,10,11,12,13] ?_;refine ZY 8 ?_;refine ZY 4 ?_;refine Z1 (i:=4) ef ef ?_;refine(S.callP Eo.h (vs:=[_,_]) ⟨rfl,rfl,trivial⟩ (fun w hs=>Compare8_P y.tier x.tier w) rfl ?_);refine Zk [] ?_;refine Z1 (i:=9) ef ef ?_;refine(S.callP Eo.h (vs:=[_,_]) ⟨rfl,rfl,trivial⟩ (fun w hs=>Compare32_P x.since y.since w) rfl ?_);refine Zk [] ?_;refine Z1 (i:=14) ef ef ?_;refine(S.callP Eo.h (vs:=[_,_]) ⟨rfl,rfl,trivial⟩ (fun w hs=>Compare32_P x.id y.id w) rfl ?_);refine Zk [] ?_;refine Z1 (i:=15) ef ef ?_;refine(S.buildSlice (pvs:=[(_,_),(_,_),(_,_)]) [_,_,_] Tryz.underlying66 Tryz.inf3.h rfl rfl ⟨⟨rfl,rfl⟩,⟨rfl,rfl⟩,⟨rfl,rfl⟩,trivial⟩ rfl rfl ?_);intro b20;refine Zk [] ?_;refine Z1 (i:=16) ef ef ?_;refine(S.callP Eo.h (vs:=[_]) ⟨rfl,trivial⟩ (fun w hs=>Or_P ⟨some ⟨b20,0,none⟩,3,3⟩ [cmpI y.tier x.tier,cmpI x.since y.since,cmpI x.id y.id] w rfl (blk_slAt (b:=b20) rfl (show 3≤maxLen by unfold maxLen;omega) w hs)) rfl ?_);refine Zk [17] ?_;refine Zy ?_;refine ZD ?_;refine Zy ?_;exact Zf ef Zq (⟨rfl,rfl⟩)
theorem First_P (x y:It) (W:World):PureS Tryz.prog 272 [.agg (itC x).toArray,.agg (itC y).toArray] W (.bool (bf x y)):=by
 refine Zbd Tryz.func272 rfl Tryz.ntmps272 fun w0 Γ=>Zsh ?_;refine ZY 2 ?_;refine Zp (S.box (cs:=[_,_,_]) rfl rfl rfl ?_);intro b2;refine Zp (S.box (cs:=[_,_,_]) rfl rfl rfl ?_);intro b3;refine ZY 6 ?_;refine Zp (S.callP Eo.h (vs:=[_,_]) ⟨rfl,rfl,trivial⟩ (fun w hs=>order_P x y w) rfl ?_);refine ZY 4 ?_;exact Zf ef Zq (⟨by simp only[resV];rw[ordI_bf],rfl⟩)
end PR
end Go.Proofs.YtdackcibfkkniaaGreatDoor
namespace Go.Proofs.YtdackcibfkkniaaGreatDoor
namespace PR
def Ok (L:List It) (c:Nat):Prop:=∀a p,L[c]?=some a→L[(c-1) / 2]?=some p→bf a p=false
def Heaped (n:Nat) (L:List It):Prop:=∀c,0<c→c<n→Ok L c
def UpOk (n:Nat) (L:List It) (j:Nat):Prop:=(∀c,0<c→c<n→c≠j→Ok L c)∧(0<j→∀c,c<n→0<c→(c-1) / 2=j→∀a p,L[c]?=some a→L[(j-1) / 2]?=some p→bf a p=false)
def swp (L:List It) (i j:Nat) (x y:It):List It:=(L.set i y).set j x
theorem swp_len (L:List It) (i j:Nat) (x y:It):(swp L i j x y).length=L.length:=by simp[swp]
theorem swp_get {L:List It} {i j:Nat} {x y:It} (hi:L[i]?=some x) (hj:L[j]?=some y) (k:Nat):(swp L i j x y)[k]?=if k=j then some x else if k=i then some y else L[k]?:=by
 have h1:=(List.getElem?_eq_some_iff.1 hi).1;have h2:=(List.getElem?_eq_some_iff.1 hj).1;unfold swp;rw[List.getElem?_set,List.getElem?_set,List.length_set]
 by_cases e1:k=j
 ·subst e1;simp[h2]
 ·rw[if_neg (Ne.symm e1),if_neg e1]
  by_cases e2:k=i
  ·subst e2;simp[h1]
  ·rw[if_neg (Ne.symm e2),if_neg e2]
theorem swp_perm {L:List It} {i j:Nat} {x y:It} (hi:L[i]?=some x) (hj:L[j]?=some y):(swp L i j x y).Perm L:=by
 obtain⟨h1,e1⟩:=List.getElem?_eq_some_iff.1 hi;obtain⟨h2,e2⟩:=List.getElem?_eq_some_iff.1 hj;have:=List.set_set_perm h1 h2;rw[e1,e2]at this;exact this
theorem upStop0 {n:Nat} {L:List It} (h:UpOk n L 0):Heaped n L:=fun c h0 hc=>h.1 c h0 hc (by omega)
theorem upStop {n:Nat} {L:List It} {j:Nat} (h:UpOk n L j) {x y:It} (hi:L[(j-1) / 2]?=some x) (hj:L[j]?=some y) (hb:bf y x=false):Heaped n L:=fun c h0 hc=>by
 by_cases e:c=j
 ·subst e;intro a p ha hp;rw[hj]at ha;rw[hi]at hp;cases ha;cases hp;exact hb
 ·exact h.1 c h0 hc e
theorem upStep {n:Nat} {L:List It} {j:Nat} (h:UpOk n L j) (h0:0<j) (hn:j<n) {x y:It} (hi:L[(j-1) / 2]?=some x) (hj:L[j]?=some y) (hb:bf y x=true):UpOk n (swp L ((j-1) / 2) j x y) ((j-1) / 2):=by
 obtain⟨h1,h2⟩:=h
 refine⟨fun c c0 cn ce a p ha hp=>?_,fun i0 c cn c0 ce a p ha hp=>?_⟩
 ·rw[swp_get hi hj]at ha hp
  by_cases e1:c=j
  ·subst e1;rw[if_pos rfl]at ha;cases ha;rw[if_neg (by omega),if_pos rfl]at hp;cases hp;exact bf_as hb
  ·rw[if_neg e1,if_neg ce]at ha
   by_cases e2:(c-1) / 2=j
   ·rw[if_pos e2]at hp;cases hp;exact h2 h0 c cn c0 e2 a x ha hi
   ·rw[if_neg e2]at hp
    by_cases e3:(c-1) / 2=(j-1) / 2
    ·rw[if_pos e3]at hp;cases hp;have hx:=h1 c c0 cn e1 a x ha (by rw[e3];exact hi);cases hay:bf a y with
     | false=>rfl
     | true=>rw[bf_tr hay hb]at hx;cases hx
    ·rw[if_neg e3]at hp;exact h1 c c0 cn e1 a p ha hp
 ·rw[swp_get hi hj]at ha hp;rw[if_neg (by omega),if_neg (by omega)]at hp;have hx:=h1 ((j-1) / 2) i0 (by omega) (by omega) x p hi hp
  by_cases e1:c=j
  ·rw[if_pos e1]at ha;cases ha;exact hx
  ·rw[if_neg e1,if_neg (by omega)]at ha;have:=h1 c c0 cn e1 a x ha (by rw[ce];exact hi);exact bf_nt this hx
def Srt (l:List It):Prop:=l.Pairwise (fun a b=>bf a b=true)
def ins (x:It):List It→List It
 | []=>[x]
 | y::l=>if bf x y then x::y::l else y::ins x l
theorem ins_perm (x:It):∀l,(ins x l).Perm (x::l)
 | []=>.refl _
 | y::l=>by
  unfold ins
  split
  ·exact .refl _
  ·exact((ins_perm x l).cons y).trans (.swap x y l)
theorem ins_srt {x:It}:∀ {l:List It},Srt l→(∀y∈l,y.id≠x.id)→Srt (ins x l)
 | [],_,_=>by simp[ins,Srt]
 | y::l,h,hx=>by
  unfold ins;have h':=List.pairwise_cons.1 h
  split
  ·rename_i hb;refine List.pairwise_cons.2 ⟨fun z hz=>?_,h⟩
   rcases List.mem_cons.1 hz with rfl | hz
   ·exact hb
   ·exact bf_tr hb (h'.1 z hz)
  ·rename_i hb;refine List.pairwise_cons.2 ⟨fun z hz=>?_,ins_srt h'.2 fun z hz=>hx z (List.mem_cons_of_mem _ hz)⟩
   rcases List.mem_cons.1 ((ins_perm x l).mem_iff.1 hz) with rfl | hz
   ·exact(bf_tot (hx y (List.mem_cons_self ..))).resolve_right hb
   ·exact h'.1 z hz
theorem srt_unique:∀ {l m:List It},Srt l→Srt m→l.Perm m→l=m
 | [],m,_,_,hp=>(List.nil_perm.1 hp).symm
 | a::l,[],_,_,hp=>by have:=hp.length_eq;simp at this
 | a::l,b::m,hl,hm,hp=>by
  have hl':=List.pairwise_cons.1 hl;have hm':=List.pairwise_cons.1 hm
  have e:a=b:=by
   rcases List.mem_cons.1 (hp.mem_iff.1 (List.mem_cons_self ..)) with e | h1
   ·exact e
   ·rcases List.mem_cons.1 (hp.mem_iff.2 (List.mem_cons_self ..)) with e | h2
    ·exact e.symm
    ·have:=bf_as (hl'.1 b h2);rw[hm'.1 a h1]at this;cases this
  subst e;rw[srt_unique hl'.2 hm'.2 (List.Perm.cons_inv hp)]
def AtOk (L:List It) (M:List (Int×Value)):Prop:=(∀(i:Nat) x,L[i]?=some x→alGet x.id M=some (.int .i64 i))∧(∀z v,alGet z M=some v→∃(i:Nat) (x:It),L[i]?=some x∧x.id=z)
theorem AtOk.inj {L:List It} {M:List (Int×Value)} (h:AtOk L M) {i j:Nat} {x y:It} (hi:L[i]?=some x) (hj:L[j]?=some y) (e:x.id=y.id):i=j:=by
 have h1:=h.1 i x hi;rw[e,h.1 j y hj]at h1;simp only[Option.some.injEq,Value.int.injEq,true_and]at h1;omega
theorem AtOk.swap {L:List It} {M:List (Int×Value)} (h:AtOk L M) {i j:Nat} {x y:It} (hi:L[i]?=some x) (hj:L[j]?=some y):AtOk (swp L i j x y) (alPut x.id (.int .i64 j) (alPut y.id (.int .i64 i) M)):=by
 refine⟨fun k z hk=>?_,fun z v hz=>?_⟩
 ·rw[swp_get hi hj]at hk;rw[alGet_put,alGet_put]
  by_cases e1:k=j
  ·rw[if_pos e1]at hk;cases hk;rw[if_pos rfl,e1]
  ·rw[if_neg e1]at hk
   by_cases e2:k=i
   ·rw[if_pos e2]at hk;cases hk;rw[if_neg (fun e=>e1 (e2.trans (h.inj hj hi e).symm)),if_pos rfl,e2]
   ·rw[if_neg e2]at hk;rw[if_neg (fun e=>e2 (h.inj hk hi e)),if_neg (fun e=>e1 (h.inj hk hj e))];exact h.1 k z hk
 ·rw[alGet_put,alGet_put]at hz
  by_cases e1:z=x.id
  ·exact⟨j,x,by rw[swp_get hi hj,if_pos rfl],e1.symm⟩
  ·rw[if_neg e1]at hz
   by_cases e2:z=y.id
   ·refine⟨i,y,?_,e2.symm⟩;rw[swp_get hi hj]
    by_cases e3:i=j
    ·rw[if_pos e3];subst e3;rw[hi]at hj;exact hj
    ·rw[if_neg e3,if_pos rfl]
   ·rw[if_neg e2]at hz;obtain⟨k,w,hk,hw⟩:=h.2 z v hz;refine⟨k,w,?_,hw⟩
    rw[swp_get hi hj,if_neg (fun e=>e2 ?_),if_neg (fun e=>e1 ?_)]
    ·exact hk
    ·subst e;rw[hi]at hk;cases hk;exact hw.symm
    ·subst e;rw[hj]at hk;cases hk;exact hw.symm
theorem AtOk.push {L:List It} {M:List (Int×Value)} (h:AtOk L M) {x:It} (hx:alGet x.id M=none):AtOk (L++[x]) (alPut x.id (.int .i64 L.length) M):=by
 refine⟨fun k z hk=>?_,fun z v hz=>?_⟩
 ·rw[alGet_put]
  by_cases e:k<L.length
  ·rw[List.getElem?_append_left e]at hk;have h1:=h.1 k z hk;rw[if_neg (fun e=>by rw[e,hx]at h1;cases h1)];exact h1
  ·rw[List.getElem?_append_right (by omega)]at hk;have hl:=(List.getElem?_eq_some_iff.1 hk).1;simp at hl;have e0:k=L.length:=by omega
   subst e0;simp at hk;subst hk;rw[if_pos rfl]
 ·rw[alGet_put]at hz
  by_cases e:z=x.id
  ·exact⟨L.length,x,by simp,e.symm⟩
  ·rw[if_neg e]at hz;obtain⟨k,w,hk,hw⟩:=h.2 z v hz;exact⟨k,w,by rw[List.getElem?_append_left (List.getElem?_eq_some_iff.1 hk).1];exact hk,hw⟩
section
variable {P:Program} {n:Nat} {ρ:Env} {Γ:List Assn} {ty:TypeId} {pos:String} {af:Array Edge} {gd:Option (Nat×Bool)} {ds:Option Tmp}
theorem q_half {t yt:TypeId} {x y:Operand} (j:Nat) (hx:ev ρ x=some (.int .i64 ((j:Int)-1))) (hy:ev ρ y=some (.int .i64 2)) (hj:j≤1000000):Qv P n ρ Γ ⟨ds,.binOp .quo t x y yt,ty,pos,af,gd⟩ (.int .i64 ((j-1) / 2:Nat)):=
 q_bin hx hy fun w=>by
  have h0:((j:Int)-1).tdiv 2=(((j-1) / 2:Nat):Int):=by
   cases j with
   | zero=>rfl
   | succ j=>
    rw[Int.tdiv_eq_ediv_of_nonneg (by omega)];omega
  simp[binOp,Op.intDiv,h0,wrap_in (k:=.i64) (inI64 (x:=((j-1:Nat):Int) / 2) (by omega) (by omega))]
end
abbrev hpC (lv:SV) (m:Nat):Array Value:=#[lv.v,.map (some m)]
theorem iLen_S (t m:Nat) (lv:SV):Spec Tryz.prog 268 [.pointer (some ⟨t,0,none⟩)] [blk t 219 (hpC lv m)] fun Γ v Θ=>v=.int .i64 lv.n∧Θ=blk t 219 (hpC lv m)::Γ:=by
 refine Zbd Tryz.func268 rfl Tryz.ntmps268 fun w0 Γ=>Zsh ?_;refine ZY 8 ?_;refine ZY 6 ?_;exact Zf ef Zq (⟨rfl,rfl⟩)
theorem Less_S (t m:Nat) (lv:SV) (L:List It) (i j:Nat) (x y:It) (hi:L[i]?=some x) (hj:L[j]?=some y) :
  Spec Tryz.prog 269 [.pointer (some ⟨t,0,none⟩),.int .i64 i,.int .i64 j] [blk t 219 (hpC lv m),own lv 183 3 (L.flatMap itC)] fun Γ v Θ=>v=.bool (bf x y)∧Θ=blk t 219 (hpC lv m)::own lv 183 3 (L.flatMap itC)::Γ:=by
 refine Zbd Tryz.func269 rfl Tryz.ntmps269 fun w0 Γ=>Zsh ?_;have hil:=(List.getElem?_eq_some_iff.1 hi).1;have hjl:=(List.getElem?_eq_some_iff.1 hj).1;refine S.ownLen lv fun hlen _ _=>?_;rw[flat_length itC_len]at hlen;refine S.ownSome lv (by omega) fun b off hb _ _ _=>?_;refine ZY 5 ?_;refine Zd ([blk t 219 (hpC lv m),own lv 183 3 (L.flatMap itC)]) [] (Zra 0 14) ?_;refine ZY 5 ?_;refine Zw ef (Zx (i) ef (hb) ef (by omega)) ?_;refine Zw ef (q_loadOwS (lv) (i*3) [_,_,_] Eo.h rfl hb (by first | rfl | exact Nat.add_assoc _ _ _ | omega) rfl (flat_seg (enc:=itC) (sz:=3) (fun _=>rfl) hi)) ?_;refine ZY 5 ?_;refine Zw ef (Zx (j) ef (hb) ef (by omega)) ?_;refine Zw ef (q_loadOwS (lv) (j*3) [_,_,_] Eo.h rfl hb (by first | rfl | exact Nat.add_assoc _ _ _ | omega) rfl (flat_seg (enc:=itC) (sz:=3) (fun _=>rfl) hj)) ?_;refine Z1 (i:=14) ef ef ?_;refine(S.callP Eo.h (vs:=[_,_]) ⟨rfl,rfl,trivial⟩ (fun w hs=>First_P x y w) rfl ?_);refine Zk [15] ?_;refine Zy ?_;refine ZD ?_;refine Zy ?_;exact Zf ef Zq (⟨rfl,rfl⟩)
theorem Swap_S (t m:Nat) (lv:SV) (L:List It) (M:List (Int×Value)) (hat:AtOk L M) (i j:Nat) (x y:It) (hi:L[i]?=some x) (hj:L[j]?=some y) :
  Spec Tryz.prog 271 [.pointer (some ⟨t,0,none⟩),.int .i64 i,.int .i64 j] [blk t 219 (hpC lv m),own lv 183 3 (L.flatMap itC),mapL m .u32 M] fun Γ _ Θ=>Θ=blk t 219 (hpC lv m)::own lv 183 3 ((swp L i j x y).flatMap itC)::mapL m .u32 (alPut x.id (.int .i64 j) (alPut y.id (.int .i64 i) M))::Γ:=by
 refine Zbd Tryz.func271 rfl Tryz.ntmps271 fun w0 Γ=>Zsh ?_;have hil:=(List.getElem?_eq_some_iff.1 hi).1;have hjl:=(List.getElem?_eq_some_iff.1 hj).1;refine S.ownLen lv fun hlen _ _=>?_;rw[flat_length itC_len]at hlen;refine S.ownSome lv (by omega) fun b off hb _ _ _=>?_;have hs1:=swp_get hi hj
 have hi':(swp L i j x y)[i]?=some y:=by
  rw[hs1]
  by_cases e:i=j
  ·subst e;rw[if_pos rfl];rw[hi]at hj;exact hj
  ·rw[if_neg e,if_pos rfl]
 have hj':(swp L i j x y)[j]?=some x:=by rw[hs1,if_pos rfl]
 have hll:=swp_len L i j x y;have hxL:=hat.1 i x hi;have hyL:=hat.1 j y hj
 obtain⟨v2,hv2⟩:∃v,alGet x.id (alPut y.id (.int .i64 i) M)=some v:=by
  rw[alGet_put]
  by_cases e:x.id=y.id
  ·rw[if_pos e];exact⟨_,rfl⟩
  ·rw[if_neg e];exact⟨_,hxL⟩
 refine Zy ?_;refine Zd ([blk t 219 (hpC lv m),own lv 183 3 (L.flatMap itC)]) [25] (Zra 0 9) ?_;refine ZY 8 ?_;refine Zy ?_;refine ZP 9 (Zra 10 15) ef (q_move rfl) ef ?_;refine ZY 5 ?_;refine Zw ef (Zx (j) ef (hb) ef (by omega)) ?_;refine Zw ef (q_loadOwS (lv) (j*3) [_,_,_] Eo.h rfl hb (by first | rfl | exact Nat.add_assoc _ _ _ | omega) rfl (flat_seg (enc:=itC) (sz:=3) (fun _=>rfl) hj)) ?_;refine ZY 5 ?_;refine Zw ef (Zx (i) ef (hb) ef (by omega)) ?_;refine Zw ef (q_loadOwS (lv) (i*3) [_,_,_] Eo.h rfl hb (by first | rfl | exact Nat.add_assoc _ _ _ | omega) rfl (flat_seg (enc:=itC) (sz:=3) (fun _=>rfl) hi)) ?_;refine Zw ef (Zx (i) ef (hb) ef (by omega)) ?_;refine Z1 (i:=25) ef ef ?_;refine(S.storeOwS (lv) (i*3) Eo.h rfl rfl rfl rfl hb (by first | rfl | exact Nat.add_assoc _ _ _ | omega) (by rw[flat_length itC_len];show i*3+3≤_;omega) (flat_put itC_len hil y) ?_);refine ZL ([]) [26] ?_;refine Zw ef (Zx (j) ef (hb) ef (by omega)) ?_;refine Z1 (i:=27) ef ef ?_;refine(S.storeOwS (lv) (j*3) Eo.h rfl rfl rfl rfl hb (by first | rfl | exact Nat.add_assoc _ _ _ | omega) (by rw[flat_length itC_len,List.length_set];show j*3+3≤_;omega) (show _=(swp L i j x y).flatMap itC from flat_put itC_len (by rw[List.length_set];exact hjl) x) ?_);refine Zk [] ?_;refine ZD ?_;refine Zd ([blk t 219 (hpC lv m),own lv 183 3 ((swp L i j x y).flatMap itC)]) [26] (Zra 0 24) ?_;refine ZY 8 ?_;refine Zy ?_;refine Zw ef (Zx (i) ef (hb) ef (by omega)) ?_;refine Zy ?_;refine Zw ef (Zo (lv) (i*3) ef (hb) (flat_seg (enc:=itC) (sz:=3) (fun _=>rfl) hi' 0 _ rfl)) ?_;refine ZY 8 ?_;refine Zy ?_;refine Zw ef (Zx (j) ef (hb) ef (by omega)) ?_;refine Zy ?_;refine Zw ef (Zo (lv) (j*3) ef (hb) (flat_seg (enc:=itC) (sz:=3) (fun _=>rfl) hj' 0 _ rfl)) ?_;refine ZP 24 [] ef (q_move rfl) ef ?_;refine ZP 25 [] ef (q_move rfl) ef ?_;refine Z1 (i:=26) ef ef ?_;refine(S.mapEntry Tryz.underlying44 Tryz.underlying31 rfl rfl rfl (hyL) rfl ?_);intro s58;refine ZL ([]) [27] ?_;refine Zy ?_;refine Z1 (i:=28) ef ef ?_;refine(S.entryStore rfl rfl rfl ?_);refine Zk [] ?_;refine Z1 (i:=29) ef ef ?_;refine(S.mapEntry Tryz.underlying44 Tryz.underlying31 rfl rfl rfl (hv2) rfl ?_);intro s60;refine Zk [30] ?_;refine Zy ?_;refine Z1 (i:=31) ef ef ?_;refine(S.entryStore rfl rfl rfl ?_);refine Zk [] ?_;refine ZD ?_;exact Zfn ef Zq (rfl)
theorem iPush_S (t m:Nat) (lv:SV) (L:List It) (M:List (Int×Value)) (x:It) (hl:L.length≤1000) :
  Spec Tryz.prog 270 [.pointer (some ⟨t,0,none⟩),.iface 183 (.agg (itC x).toArray)] [blk t 219 (hpC lv m),own lv 183 3 (L.flatMap itC),mapL m .u32 M] fun Γ _ Θ=>∃lv':SV,Θ=blk t 219 (hpC lv' m)::own lv' 183 3 ((L++[x]).flatMap itC)::mapL m .u32 (alPut x.id (.int .i64 L.length) M)::Γ:=by
 refine Zbd Tryz.func270 rfl Tryz.ntmps270 fun w0 Γ=>Zsh ?_;refine S.ownLen lv fun hlen _ _=>?_;rw[flat_length itC_len]at hlen;have hll:lv.n=L.length:=by omega
 refine ZY 3 ?_;refine Zv (q_assertOk (by rw[Tryz.underlying183]) rfl) ?_;refine ZY 3 ?_;refine Zp (S.alloc Tryz.z183.h rfl ?_);intro b4;refine Zp (Zs ef ef (cs':=[_,_,_]) ef ?_);refine ZY 6 ?_;refine ZT ef ?_;refine Zy ?_;refine Zd ([blk t 219 (hpC lv m),blk b4 183 (itC x).toArray]) [11] (Zra 0 11) ?_;refine ZY 8 ?_;refine ZY 3 ?_;refine Z1 (i:=11) ef ef ?_;refine(S.mapUpdate Tryz.underlying44 Tryz.underlying31 rfl rfl rfl rfl ?_);rw[show (lv.n:Int)=L.length by omega];refine ZL ([]) [] ?_;refine ZD ?_;refine Zd ([blk t 219 (hpC lv m),blk b4 183 (itC x).toArray]) [10] (Zra 0 6) ?_;refine ZY 6 ?_;refine Z1 (i:=6) ef ef ?_;refine(S.buildSlice (pvs:=[(_,_)]) [_,_,_] Tryz.underlying184 Tryz.inf183.h rfl rfl ⟨⟨rfl,rfl⟩,trivial⟩ rfl rfl ?_);intro b29;refine Zk [] ?_;refine Z1 (i:=7) ef ef ?_;refine(S.appendOw (s:=lv) (1) (itC x) Tryz.underlying184 Tryz.inf183.h rfl rfl rfl (blk_slAt (b:=b29) rfl (by unfold maxLen;omega)) (by first | rfl | exact allOne_bcells _) (⟨by omega,by omega⟩) rfl ?_);intro lv' hlv';rw[flat_snoc itC L x];refine Zk [8,9] ?_;refine ZY 2 ?_;refine Z1 (i:=10) ef ef ?_;refine(S.store (cs':=[_,_]) Eo.h rfl rfl rfl rfl rfl ?_);refine ZL ([]) [] ?_;refine ZD ?_;exact Zfn ef Zq (⟨lv',rfl⟩)
abbrev HB (t m:Nat) (lv:SV) (L:List It) (M:List (Int×Value)) (Γ:List Assn):List Assn:=blk t 219 (hpC lv m)::own lv 183 3 (L.flatMap itC)::mapL m .u32 M::Γ
theorem up_S (t m:Nat) (lv:SV) (n:Nat) (L:List It) (M:List (Int×Value)) (j:Nat) (hj:j<n) (hn:n≤L.length) (hl:L.length≤1000) (hat:AtOk L M) (hu:UpOk n L j) :
  Spec Tryz.prog 168 [.iface 221 (.pointer (some ⟨t,0,none⟩)),.int .i64 j] [blk t 219 (hpC lv m),own lv 183 3 (L.flatMap itC),mapL m .u32 M] fun Γ _ Θ=>
   ∃L' M',L'.Perm L∧AtOk L' M'∧Heaped n L'∧(∀k,n≤k→L'[k]?=L[k]?)∧Θ=HB t m lv L' M' Γ:=by
 refine Zbd Tryz.func168 rfl Tryz.ntmps168 fun w0 Γ=>Zsh ?_;refine Zy ?_;refine Zl (fun mm ρ' Γ'=>∃L' M',mm<n∧L'.Perm L∧AtOk L' M'∧UpOk n L' mm∧(∀k,n≤k→L'[k]?=L[k]?)∧ρ'=[(0,.iface 221 (.pointer (some ⟨t,0,none⟩))),(1,.int .i64 mm)]∧Γ'=HB t m lv L' M' Γ) (m:=_) (⟨L,M,hj,.refl _,hat,hu,fun _ _=>rfl,rfl,rfl⟩) ?_;rintro j ρ' Γ' ⟨L',M',hj',hperm,hat',hu',htail,rfl,rfl⟩;have hll:L'.length=L.length:=hperm.length_eq;obtain⟨x,hx⟩:=getE (l:=L') (i:=(j-1) / 2) (by omega);obtain⟨y,hy⟩:=getE (l:=L') (i:=j) (by omega);refine ZY 4 ?_;refine Zv (Zm ef ef) ?_;refine Zv (q_half j rfl rfl (by omega)) ?_;refine ZY 8 ?_;refine Zy ?_
 refine Zb 11 ef (fun hg1_3=>?_) (fun hg1_3=>?_)
 ·refine ZY 8 ?_;refine Zy ?_;exact Zfn ef Zq (⟨L',M',hperm,hat',by first | exact upStop0 ((show j=0 by omega) ▸ hu') | exact upStop hu' hx hy (by simpa using h1),htail,rfl⟩)
 ·refine ZY 3 ?_;refine Zg ef ef ef (S.callI (f:=269) (vs:=[_,_]) (by kernel_rfl) Eo.h rfl ⟨rfl,rfl,trivial⟩ (Less_S t m lv L' j ((j-1) / 2) y x hy hx) rfl ?_);rintro v Θ ⟨rfl,rfl⟩;refine ZY 3 ?_
  refine Zi ef (fun h1=>?_) (fun h1=>?_)
  ·refine Zy ?_;exact Zfn ef Zq (⟨L',M',hperm,hat',by first | exact upStop0 ((show j=0 by omega) ▸ hu') | exact upStop hu' hx hy (by simpa using h1),htail,rfl⟩)
  ·refine ZY 6 ?_;refine Zp (S.callI (f:=271) (vs:=[_,_]) (by kernel_rfl) Eo.h rfl ⟨rfl,rfl,trivial⟩ (Swap_S t m lv L' M' hat' ((j-1) / 2) j x y hx hy) rfl ?_);rintro v Θ rfl;refine ZY 5 ?_;exact ZX ((j-1) / 2) (⟨swp L' ((j-1) / 2) j x y,_,by omega,(swp_perm hx hy).trans hperm,hat'.swap hx hy,upStep hu' (by omega) hj' hx hy (by simpa using h1),fun k hk=>by rw[swp_get hx hy,if_neg (by omega),if_neg (by omega)];exact htail k hk,rfl,rfl⟩) (by omega)
theorem hPush_S (t m:Nat) (lv:SV) (L:List It) (M:List (Int×Value)) (x:It) (hl:L.length≤999) (hat:AtOk L M) (hh:Heaped L.length L) (hx:alGet x.id M=none) :
  Spec Tryz.prog 140 [.iface 221 (.pointer (some ⟨t,0,none⟩)),.iface 183 (.agg (itC x).toArray)] [blk t 219 (hpC lv m),own lv 183 3 (L.flatMap itC),mapL m .u32 M] fun Γ _ Θ=>
   ∃lv' L' M',L'.Perm (x::L)∧AtOk L' M'∧Heaped L'.length L'∧Θ=HB t m lv' L' M' Γ:=by
 refine Zbd Tryz.func140 rfl Tryz.ntmps140 fun w0 Γ=>Zsh ?_;refine ZY 4 ?_;refine Zp (S.callI (f:=270) (vs:=[_]) (by kernel_rfl) Eo.h rfl ⟨rfl,trivial⟩ (iPush_S t m lv L M x (by omega)) rfl ?_);rintro v Θ ⟨lv',rfl⟩;refine S.ownLen lv' fun hlen _ _=>?_;rw[flat_length itC_len]at hlen;simp only[List.length_append,List.length_cons,List.length_nil]at hlen;refine ZY 4 ?_;refine Zp (S.callI (f:=268) (vs:=[]) (by kernel_rfl) Eo.h rfl trivial (iLen_S t m lv') rfl ?_);rintro v Θ ⟨rfl,rfl⟩;refine Zv (Zm ef ef) ?_;rw[show ((lv'.n:Int)-1)=((L.length:Nat):Int) by omega];refine Zp (Zc1 Ze (up_S t m lv' (L.length+1) (L++[x]) (alPut x.id (.int .i64 L.length) M) L.length (by omega) (by simp) (by simp;omega) (hat.push hx) ⟨fun c c0 cn ce=>(by intro a p ha hp;rw[List.getElem?_append_left (by omega)]at ha hp;exact hh c c0 (by omega) a p ha hp),fun _ c cn c0 ce=>by omega⟩) ?_);rintro v Θ ⟨L',M',hp,hat',hh',_,rfl⟩;refine Zy ?_;exact Zfn ef Zq (⟨lv',L',M',hp.trans (List.perm_append_singleton x L),hat',by rw[hp.length_eq];simpa using hh',rfl⟩)
def HI (pa:Option Addr):Option (List It)→Assn
 | none=>fun _=>pa=none
 | some l=>fun h=>∃t m lv L M,pa=some ⟨t,0,none⟩∧L.Perm l∧Srt l∧Heaped L.length L∧AtOk L M∧stars [blk t 219 (hpC lv m),own lv 183 3 (L.flatMap itC),mapL m .u32 M] h
section
variable {pa:Option Addr} {l:List It}
theorem Ent.closeHI {t m:Nat} {lv:SV} {L:List It} {M:List (Int×Value)} (hp:L.Perm l) (hs:Srt l) (hh:Heaped L.length L) (ha:AtOk L M) (Γ:List Assn):Ent (HB t m lv L M Γ) (HI (some ⟨t,0,none⟩) (some l)::Γ):=fun h hh'=>by
 have:=(stars_append (Γ:=[blk t 219 (hpC lv m),own lv 183 3 (L.flatMap itC),mapL m .u32 M]) (Δ:=Γ)).1 hh';exact Ent.mono1 Γ (fun y hy=>⟨t,m,lv,L,M,rfl,hp,hs,hh,ha,hy⟩) h this
theorem Ent.noHI (Γ:List Assn):Ent Γ (HI none none::Γ):=fun h hs=>⟨HL.emp,h,HL.emp_disj _,HL.emp_le _,HL.le.refl _,rfl,hs⟩
theorem Sat.openHI {w:World} {Γ:List Assn} (hs:Sat w (HI pa (some l)::Γ)):∃t m lv L M,pa=some ⟨t,0,none⟩∧L.Perm l∧Srt l∧Heaped L.length L∧AtOk L M∧lv.n=L.length∧Sat w (HB t m lv L M Γ):=by
 obtain⟨h,l0,h1,h2,d,l1,l2,⟨t,m,lv,L,M,e1,e2,e3,e4,e5,e6⟩,s⟩:=hs;refine⟨t,m,lv,L,M,e1,e2,e3,e4,e5,?_,h,l0,(stars_append (Γ:=[blk t 219 (hpC lv m),own lv 183 3 (L.flatMap itC),mapL m .u32 M]) (Δ:=Γ)).2 ⟨h1,h2,d,l1,l2,e6,s⟩⟩;obtain⟨_,k2,_,_,_,_,_,k3,_,_,_,p,_⟩:=e6;have:=p.1;rw[flat_length itC_len]at this;omega
theorem Spec.openHI {P:Program} {f:FuncId} {args:List Value} {pre:List Assn} {post:List Assn→Value→List Assn→Prop} (h:∀t m lv L M,pa=some ⟨t,0,none⟩→L.Perm l→Srt l→Heaped L.length L→AtOk L M→lv.n=L.length→Spec P f args (HB t m lv L M pre) post):Spec P f args (HI pa (some l)::pre) post:=by
 intro Γ w hs;obtain⟨t,m,lv,L,M,e1,e2,e3,e4,e5,e6,hs'⟩:=Sat.openHI hs;exact h t m lv L M e1 e2 e3 e4 e5 e6 Γ w hs'
theorem Spec.noHI {P:Program} {f:FuncId} {args:List Value} {pre:List Assn} {post:List Assn→Value→List Assn→Prop} (h:pa=none→Spec P f args pre post):Spec P f args (HI pa none::pre) post:=by
 intro Γ w hs;have e:pa=none:=by obtain⟨x,_,p⟩:=hs.head;exact p
 exact h e Γ w (hs.ent (Ent.drop _ _))
end
theorem HNew_S:Spec Tryz.prog 108 [] [] fun Γ v Θ=>∃pa,v=.pointer pa∧Θ=HI pa (some [])::Γ:=by
 refine Zbd Tryz.func108 rfl Tryz.ntmps108 fun w0 Γ=>Zsh ?_;refine ZY 6 ?_;refine Zp (S.makeMap .u32 rfl ?_);intro b1;refine Zv (q_build (pvs:=[(_,_)]) [_,_] Tryz.z217.h Tryz.p217.h ⟨⟨rfl,rfl⟩,trivial⟩ rfl) ?_;refine Zv (q_build (pvs:=[(_,_)]) [_,_] Tryz.z219.h Tryz.p219.h ⟨⟨rfl,rfl⟩,trivial⟩ rfl) ?_;refine Zp (S.box (cs:=[_,_]) rfl rfl rfl ?_);intro b4;refine ZY 3 ?_;refine S.ent (show Ent _ (own SV.nil 183 3 (([]:List It).flatMap itC)::_) from Ent.ownNil 183 3) ?_;refine S.ent ((Sub.ent:Ent _ (HB b4 b1 SV.nil [] [] Γ)).trans (Ent.closeHI (.refl _) List.Pairwise.nil (fun c c0 cn=>by simp at cn) ⟨fun i x h=>by simp at h,fun z v h=>by simp[alGet]at h⟩ Γ)) ?_;exact Zf ef Zq (⟨some ⟨b4,0,none⟩,rfl,rfl⟩)
abbrev HSt:=Option (List It)
def hasL (id:Int) (l:List It):Bool:=l.any fun x=>decide (x.id=id)
def hasR (id:Int):HSt→Bool
 | none=>false
 | some l=>hasL id l
def pushR (x:It):HSt→Int×HSt
 | none=>(6,none)
 | some l=>if hasL x.id l then (7,some l) else (0,some (ins x l))
def lenR:HSt→Nat
 | none=>0
 | some l=>l.length
theorem hasL_perm {id:Int} {L l:List It} (h:L.Perm l):hasL id L=hasL id l:=by
 unfold hasL;rw[Bool.eq_iff_iff,List.any_eq_true,List.any_eq_true];exact⟨fun⟨x,h1,h2⟩=>⟨x,h.mem_iff.1 h1,h2⟩,fun⟨x,h1,h2⟩=>⟨x,h.mem_iff.2 h1,h2⟩⟩
theorem AtOk.has {L:List It} {M:List (Int×Value)} (h:AtOk L M) (id:Int):(alGet id M).isSome=hasL id L:=by
 unfold hasL;rw[Bool.eq_iff_iff,List.any_eq_true]
 constructor
 ·intro h1;obtain⟨v,hv⟩:=Option.isSome_iff_exists.1 h1;obtain⟨i,x,h2,h3⟩:=h.2 id v hv;exact⟨x,List.mem_of_getElem? h2,decide_eq_true h3⟩
 ·rintro ⟨x,h1,h2⟩;obtain⟨i,hi⟩:=List.getElem?_of_mem h1;rw[←of_decide_eq_true h2,h.1 i x hi];rfl
theorem where0_S (id:Int):Spec Tryz.prog 167 [.pointer none,.int .u32 id] [] fun Γ v Θ=>v=.tuple #[.int .i64 0,.bool false]∧Θ=Γ:=by
 refine Zbd Tryz.func167 rfl Tryz.ntmps167 fun w0 Γ=>Zsh ?_;refine ZY 8 ?_;refine ZY 3 ?_;refine ZT ef ?_;refine ZY 6 ?_;exact Zf ef Zq (⟨rfl,rfl⟩)
theorem where_S (t m:Nat) (lv:SV) (M:List (Int×Value)) (id:Int):Spec Tryz.prog 167 [.pointer (some ⟨t,0,none⟩),.int .u32 id] [blk t 219 (hpC lv m),mapL m .u32 M] fun Γ v Θ=>
  v=.tuple #[(alGet id M).getD (.int .i64 0),.bool (alGet id M).isSome]∧Θ=blk t 219 (hpC lv m)::mapL m .u32 M::Γ:=by
 refine Zbd Tryz.func167 rfl Tryz.ntmps167 fun w0 Γ=>Zsh ?_;refine ZY 8 ?_;refine ZY 3 ?_;refine ZF ef ?_;refine ZY 8 ?_;refine Zy ?_;refine Zv (q_lookupOk ((alGet id M).getD (.int .i64 0)) ((alGet id M).isSome) Tryz.underlying44 Tryz.underlying31 Tryz.zv3.h rfl rfl rfl (by cases alGet id M <;> rfl)) ?_;refine ZY 8 ?_;refine ZY 6 ?_;exact Zf ef Zq (⟨rfl,rfl⟩)
theorem Has_S (pa:Option Addr) (st:HSt) (id:Int):Spec Tryz.prog 139 [.pointer pa,.int .u32 id] [HI pa st] fun Γ v Θ=>v=.bool (hasR id st)∧Θ=HI pa st::Γ:=by
 cases st with
 | none=>
  refine Spec.noHI fun e=>?_;subst e
  have h0:Spec Tryz.prog 139 [.pointer none,.int .u32 id] [] fun Γ v Θ=>v=.bool false∧Θ=Γ:=by
   refine Zbd Tryz.func139 rfl Tryz.ntmps139 fun w0 Γ=>Zsh ?_;refine ZY 8 ?_;refine Zp (Zcp Ze (where0_S id) ?_);refine ZY 8 ?_;refine ZY 4 ?_;exact Zf ef Zq (⟨rfl,rfl⟩)
  refine h0.weaken fun Γ=>⟨Γ,Ent.refl _,?_⟩;rintro v Θ ⟨rfl,rfl⟩;exact⟨_,⟨rfl,rfl⟩,Ent.noHI _⟩
 | some l=>
  refine Spec.openHI fun t m lv L M e1 e2 e3 e4 e5 e6=>?_;subst e1
  have h0:Spec Tryz.prog 139 [.pointer (some ⟨t,0,none⟩),.int .u32 id] [blk t 219 (hpC lv m),mapL m .u32 M] fun Γ v Θ=>v=.bool (alGet id M).isSome∧Θ=blk t 219 (hpC lv m)::mapL m .u32 M::Γ:=by
   refine Zbd Tryz.func139 rfl Tryz.ntmps139 fun w0 Γ=>Zsh ?_;refine ZY 8 ?_;refine Zp (Zcp Ze (where_S t m lv M id) ?_);refine ZY 8 ?_;refine ZY 4 ?_;exact Zf ef Zq (⟨rfl,rfl⟩)
  refine h0.weaken fun Γ=>⟨own lv 183 3 (L.flatMap itC)::Γ,by simp only[List.cons_append,List.nil_append];exact Sub.ent,?_⟩;rintro v Θ ⟨rfl,rfl⟩;refine⟨_,⟨by rw[e5.has,hasL_perm e2];rfl,rfl⟩,?_⟩;exact(Sub.ent:Ent _ (HB t m lv L M Γ)).trans (Ent.closeHI e2 e3 e4 e5 Γ)
theorem Spec.hiSome {pa:Option Addr} {l:List It} {P:Program} {f:FuncId} {args:List Value} {pre:List Assn} {post:List Assn→Value→List Assn→Prop} (h:∀t,pa=some ⟨t,0,none⟩→Spec P f args (HI pa (some l)::pre) post):Spec P f args (HI pa (some l)::pre) post:=by
 intro Γ w hs
 have:∃t,pa=some ⟨t,0,none⟩:=by
  obtain⟨x,_,t,_,_,_,_,e,_⟩:=hs.head;exact⟨t,e⟩
 obtain⟨t,e⟩:=this;exact h t e Γ w hs
theorem S.hiOpen {n:Nat} {md:Bool} {w0:WM md} {ρ:Env} {Γ Δ:List Assn} {φ:Act→World→Prop} (t:Nat) (l:List It) [p:Pick (HI (some ⟨t,0,none⟩) (some l)) Γ Δ] (k:∀m lv L M,L.Perm l→Srt l→Heaped L.length L→AtOk L M→lv.n=L.length→S n w0 ρ (HB t m lv L M Δ) φ):S n w0 ρ Γ φ:=by
 intro a w ha hs hx;obtain⟨t',m,lv,L,M,e1,e2,e3,e4,e5,e6,hs'⟩:=Sat.openHI (hs.ent p.ent);cases e1;exact k m lv L M e2 e3 e4 e5 e6 a w ha hs' hx
theorem hasL_false {x:It} {l:List It} (h:hasL x.id l=false):∀y∈l,y.id≠x.id:=fun y hy e=>by
 unfold hasL at h;rw[List.any_eq_false]at h;exact h y hy (decide_eq_true e)
theorem HPush_S (pa:Option Addr) (st:HSt) (x:It) (hl:lenR st≤999):Spec Tryz.prog 109 [.pointer pa,.agg (itC x).toArray] [HI pa st] fun Γ v Θ=>v=.int .i64 (pushR x st).1∧Θ=HI pa (pushR x st).2::Γ:=by
 cases st with
 | none=>
  refine Spec.noHI fun e=>?_;subst e
  have h0:Spec Tryz.prog 109 [.pointer none,.agg (itC x).toArray] [] fun Γ v Θ=>v=.int .i64 6∧Θ=Γ:=by
   refine Zbd Tryz.func109 rfl Tryz.ntmps109 fun w0 Γ=>Zsh ?_;refine ZY 2 ?_;refine Zp (S.box (cs:=[_,_,_]) rfl rfl rfl ?_);intro b3;refine ZY 8 ?_;refine ZY 2 ?_;refine ZT ef ?_;refine ZY 5 ?_;exact Zf ef Zq (⟨rfl,rfl⟩)
  refine h0.weaken fun Γ=>⟨Γ,Ent.refl _,?_⟩;rintro v Θ ⟨rfl,rfl⟩;exact⟨_,⟨rfl,rfl⟩,Ent.noHI _⟩
 | some l=>
  refine Spec.hiSome fun t e=>?_;subst e;simp only[lenR]at hl;refine Zbd Tryz.func109 rfl Tryz.ntmps109 fun w0 Γ=>Zsh ?_;refine ZY 2 ?_;refine Zp (S.box (cs:=[_,_,_]) rfl rfl rfl ?_);intro b3;refine ZY 8 ?_;refine ZY 2 ?_;refine ZF ef ?_;refine ZY 5 ?_;refine Zp (Zcp Ze (Has_S (some ⟨t,0,none⟩) (some l) x.id) ?_);refine ZY 2 ?_
  refine Zi ef (fun h2=>?_) (fun h2=>?_)
  ·have h2':hasL x.id l=true:=h2;refine ZY 5 ?_;exact Zf ef Zq (⟨by simp only[resV,pushR];rw[if_pos h2'],by simp only[pushR];rw[if_pos h2']⟩)
  ·refine S.hiOpen t l fun m lv L M hp hs hh hat hn=>?_;have hll:=hp.length_eq;have hno:hasL x.id l=false:=h2
   have hgx:alGet x.id M=none:=by
    have:=hat.has x.id;rw[hasL_perm hp,hno]at this;exact Option.not_isSome_iff_eq_none.1 (by rw[this];simp)
   have hsrt:=ins_srt hs (hasL_false hno);have hpr:pushR x (some l)=(0,some (ins x l)):=by simp only[pushR,hno];rfl
   refine ZY 2 ?_;refine Zd ([blk b3 183 (itC x).toArray]) [] (Zra 0 6) ?_;refine ZY 3 ?_;refine Zw ef (q_makeInterface (by rw[Tryz.underlying221]) rfl) ?_;refine Zy ?_;refine Zw ef (q_makeInterface (by rw[Tryz.underlying183]) rfl) ?_;refine Z1 (i:=6) ef ef ?_;refine  (Zc1 Ze (hPush_S t m lv L M x (by omega) hat hh hgx) ?_);rintro v Θ ⟨lv',L',M',hp',hat',hh',rfl⟩;refine S.ent (Ent.closeHI (l:=ins x l) (hp'.trans ((hp.cons x).trans (ins_perm x l).symm)) hsrt hh' hat' _) ?_;refine Zk [] ?_;refine ZD ?_;refine ZY 5 ?_;exact Zf ef Zq (⟨by simp only[resV];rw[hpr],by rw[hpr]⟩)
theorem itC_one (l:List It):allOne (l.flatMap itC)=true:=List.all_eq_true.2 fun u hu=>by
 obtain⟨x,_,h⟩:=List.mem_flatMap.1 hu;simp only[itC,List.mem_cons,List.not_mem_nil,or_false]at h;rcases h with rfl | rfl | rfl <;> rfl
theorem ltOrd (x y:It):Go.Proofs.ltOf ordI x y=bf x y:=ordI_bf x y
theorem swoOrd:Go.Sort.SWO (Go.Proofs.ltOf ordI) where
 irrefl x:=by rw[ltOrd];exact bf_irr x
 trans x y z h1 h2:=by rw[ltOrd]at *;exact bf_tr h1 h2
 ntrans x y z h1 h2:=by rw[ltOrd]at *;exact bf_nt h1 h2
theorem Sort_S (s:SV) (l:List It) (hl:l.length≤1000000):Spec Tryz.prog 142 [s.v,.func (.func 143) #[] #[]] [own s 183 3 (l.flatMap itC)] fun Γ _ Θ=>
  ∃l':List It,l'.Perm l∧l'.Pairwise (fun a b=>bf b a=false)∧Θ=own s 183 3 (l'.flatMap itC)::Γ:=by
 have h:=SortFunc_S Tryz.sort142 3 Tryz.isAgg183 Tryz.sizeOf183 itC itC_len (by omega) (fun x v hv=>by simp only[itC,List.mem_cons,List.not_mem_nil,or_false]at hv;rcases hv with rfl | rfl | rfl <;> rfl) ordI swoOrd 143 (enters_of Tryz.func143 (by kernel_rfl) rfl) order_P 183 s l (by omega);simp only[ltOrd]at h;exact h
theorem S.ownNone {n:Nat} {md:Bool} {w0:WM md} {ρ:Env} {Γ:List Assn} {φ:Act→World→Prop} (s:SV) {e:TypeId} {sz:Nat} {xs:List Value} {Δ:List Assn} [h:HasOw Γ s e sz xs Δ] (k:(s.a.isNone=true→s.n=0)→S n w0 ρ Γ φ):S n w0 ρ Γ φ:=by
 intro a w ha hs hx;obtain⟨x,_,p⟩:=(hs.ent h.ent).head;refine k (fun hn=>?_) a w ha hs hx
 rcases p.2 with ⟨_,h2,_⟩ | ⟨_,_,_,h1,_⟩
 ·exact h2
 ·rw[h1]at hn;cases hn
theorem CloneIt_S (s:SV) (l:List It) (hl:l.length≤1000000):Spec Tryz.prog 141 [s.v] [own s 183 3 (l.flatMap itC)] fun Γ v Θ=>
  ∃u:SV,v=u.v∧Θ=own u 183 3 (l.flatMap itC)::own s 183 3 (l.flatMap itC)::Γ:=by
 refine Zbd Tryz.func141 rfl Tryz.ntmps141 fun w0 Γ=>Zsh ?_;refine S.ownLen s fun hlen _ _=>?_;rw[flat_length itC_len]at hlen;refine S.ownNone s fun hnone=>?_;refine ZY 8 ?_;refine ZY 2 ?_
 refine Zi ef (fun h1=>?_) (fun h1=>?_)
 ·refine ZY 5 ?_;obtain rfl:l=[]:=List.eq_nil_of_length_eq_zero (by have:=hnone (by simpa using h1);omega);refine S.ent (show Ent _ (own SV.nil 183 3 (([]:List It).flatMap itC)::_) from Ent.ownNil 183 3) ?_;exact Zf ef Zq (⟨SV.nil,rfl,rfl⟩)
 ·refine ZY 3 ?_;refine Zp (S.buildSlice0 Tryz.underlying184 Tryz.inf183.h rfl ?_);intro b5 hb5;refine Zy ?_;refine Zp (S.appendOw (s:=b5) (s.n) (l.flatMap itC) Tryz.underlying184 Tryz.inf183.h rfl rfl rfl (fun w hs=>HasOw.slAt inferInstance hs) (itC_one l) (⟨by omega,by omega⟩) rfl ?_);intro u hu;rw[List.nil_append];refine ZY 3 ?_;exact Zf ef Zq (⟨u,rfl,rfl⟩)
def stL:HSt→List It
 | none=>[]
 | some l=>l
theorem srt_of {L:List It} (hnd:L.Pairwise (fun a b=>a.id≠b.id)) (h:L.Pairwise (fun a b=>bf b a=false)):Srt L:=by
 have:=hnd.and h;exact this.imp fun⟨h1,h2⟩=>(bf_tot h1).resolve_right (by rw[h2];simp)
theorem AtOk.nodup {L:List It} {M:List (Int×Value)} (h:AtOk L M):(L.map (·.id)).Nodup:=by
 rw[List.nodup_iff_pairwise_ne,List.pairwise_map,List.pairwise_iff_getElem];intro i j hi hj hij e;have:=h.inj (List.getElem?_eq_getElem hi) (List.getElem?_eq_getElem hj) e;omega
theorem List_S (pa:Option Addr) (st:HSt) (hl:lenR st≤1000):Spec Tryz.prog 110 [.pointer pa] [HI pa st] fun Γ v Θ=>∃u:SV,v=u.v∧Θ=own u 183 3 ((stL st).flatMap itC)::HI pa st::Γ:=by
 cases st with
 | none=>
  refine Spec.noHI fun e=>?_;subst e
  have h0:Spec Tryz.prog 110 [.pointer none] [] fun Γ v Θ=>v=.slice none 0 0∧Θ=Γ:=by
   refine Zbd Tryz.func110 rfl Tryz.ntmps110 fun w0 Γ=>Zsh ?_;refine ZY 8 ?_;refine ZY 2 ?_;refine ZT ef ?_;refine ZY 5 ?_;exact Zf ef Zq (⟨rfl,rfl⟩)
  refine h0.weaken fun Γ=>⟨Γ,Ent.refl _,?_⟩;rintro v Θ ⟨rfl,rfl⟩;exact⟨_,⟨SV.nil,rfl,rfl⟩,(Ent.noHI _).trans (Ent.ownNil _ _)⟩
 | some l=>
  refine Spec.hiSome fun t e=>?_;subst e;simp only[lenR]at hl;refine Zbd Tryz.func110 rfl Tryz.ntmps110 fun w0 Γ=>Zsh ?_;refine S.hiOpen t l fun m lv L M hp hs hh hat hn=>?_;have hll:=hp.length_eq;refine ZY 8 ?_;refine ZY 2 ?_;refine ZF ef ?_;refine ZY 8 ?_;refine Zp (Zc1 Ze (CloneIt_S lv L (by omega)) ?_);rintro v Θ ⟨u,rfl,rfl⟩;refine ZY 5 ?_;refine Zp (Zc1 Ze (Sort_S u L (by omega)) ?_);rintro v Θ ⟨L',hp',hs',rfl⟩
  have hnd:L'.Pairwise (fun a b=>a.id≠b.id):=by
   have:=(hp'.symm.map (fun x:It=>x.id)).nodup hat.nodup
   rwa [List.nodup_iff_pairwise_ne,List.pairwise_map]at this
  obtain rfl:L'=l:=srt_unique (srt_of hnd hs') hs (hp'.trans hp);refine S.ent ((Sub.ent:Ent _ (HB t m lv L M (own u 183 3 (L'.flatMap itC)::Γ))).trans (Ent.closeHI (t:=t) hp hs hh hat _)) ?_;refine ZY 7 ?_;exact Zf ef Zq (⟨u,rfl,show _=own u 183 3 (L'.flatMap itC)::HI (some ⟨t,0,none⟩) (some L')::Γ from rfl⟩)
end PR
end Go.Proofs.YtdackcibfkkniaaGreatDoor
set_option linter.unusedVariables false
namespace Go.Proofs.YtdackcibfkkniaaGreatDoor
namespace PL
def inI (x:Int):Int:=if x<0 then 0 else if 1099511627776<x then 1099511627776 else x
def addI (a b:Int):Int:=inI (inI a+inI b)
theorem inI_nn (x:Int):0≤inI x∧inI x≤1099511627776:=by unfold inI;split <;> (try split) <;> omega
theorem inI_id {x:Int} (h:0≤x) (h2:x≤1099511627776):inI x=x:=by unfold inI;rw[if_neg (by omega),if_neg (by omega)]
theorem inI_inI (x:Int):inI (inI x)=inI x:=inI_id (inI_nn x).1 (inI_nn x).2
abbrev Ce:=Int×Int
def ltC (a b:Ce):Bool:=decide (a.2<b.2∨a.2=b.2∧a.1<b.1)
theorem ltC_irr (a:Ce):ltC a a=false:=decide_eq_false (by omega)
theorem ltC_tr {a b c:Ce} (h1:ltC a b=true) (h2:ltC b c=true):ltC a c=true:=by
 simp only[ltC,decide_eq_true_eq]at *;omega
theorem ltC_nt {a b c:Ce} (h1:ltC a b=false) (h2:ltC b c=false):ltC a c=false:=by
 simp only[ltC,decide_eq_false_iff_not]at *;omega
theorem ltC_as {a b:Ce} (h1:ltC a b=true):ltC b a=false:=by
 simp only[ltC,decide_eq_true_eq,decide_eq_false_iff_not]at *;omega
theorem ltC_tot {a b:Ce} (h:a.1≠b.1):ltC a b=true∨ltC b a=true:=by
 simp only[ltC,decide_eq_true_eq];omega
def insC (x:Ce):List Ce→List Ce
 | []=>[x]
 | y::l=>if ltC x y then x::y::l else y::insC x l
def srtC:List Ce→List Ce
 | []=>[]
 | x::l=>insC x (srtC l)
theorem insC_perm (x:Ce):∀l,(insC x l).Perm (x::l)
 | []=>.refl _
 | y::l=>by
  unfold insC
  split
  ·exact .refl _
  ·exact((insC_perm x l).cons y).trans (.swap _ _ _)
theorem srtC_perm:∀l,(srtC l).Perm l
 | []=>.refl _
 | x::l=>(insC_perm x _).trans ((srtC_perm l).cons x)
abbrev Srt (l:List Ce):Prop:=l.Pairwise fun a b=>ltC a b=true
theorem insC_srt {x:Ce}:∀ {l},Srt l→(∀y∈l,x.1≠y.1)→Srt (insC x l)
 | [],_,_=>List.pairwise_singleton _ _
 | y::l,h,hd=>by
  have h':=List.pairwise_cons.1 h;unfold insC
  split
  ·rename_i hlt;refine List.pairwise_cons.2 ⟨fun z hz=>?_,h⟩
   rcases List.mem_cons.1 hz with rfl | hz
   ·exact hlt
   ·exact ltC_tr hlt (h'.1 z hz)
  ·rename_i hlt;refine List.pairwise_cons.2 ⟨fun z hz=>?_,insC_srt h'.2 fun z hz=>hd z (.tail _ hz)⟩
   rcases List.mem_cons.1 ((insC_perm x l).mem_iff.1 hz) with rfl | hz
   ·exact(ltC_tot (hd y (.head _))).resolve_left (by simpa using hlt)
   ·exact h'.1 z hz
abbrev Dif (l:List Ce):Prop:=l.Pairwise fun a b=>a.1≠b.1
theorem srtC_srt:∀ {l},Dif l→Srt (srtC l)
 | [],_=>.nil
 | x::l,h=>by
  have h':=List.pairwise_cons.1 h;exact insC_srt (srtC_srt h'.2) fun y hy=>h'.1 y ((srtC_perm l).mem_iff.1 hy)
theorem srt_uni:∀ {l m:List Ce},Srt l→Srt m→l.Perm m→l=m
 | [],m,_,_,hp=>(List.nil_perm.1 hp).symm
 | a::l,[],_,_,hp=>by have:=hp.length_eq;simp at this
 | a::l,b::m,hl,hm,hp=>by
  have hl':=List.pairwise_cons.1 hl;have hm':=List.pairwise_cons.1 hm
  have e:a=b:=by
   rcases List.mem_cons.1 (hp.mem_iff.1 (List.mem_cons_self ..)) with e | h1
   ·exact e
   ·rcases List.mem_cons.1 (hp.mem_iff.2 (List.mem_cons_self ..)) with e | h2
    ·exact e.symm
    ·have:=ltC_as (hl'.1 b h2);rw[hm'.1 a h1]at this;cases this
  subst e;rw[srt_uni hl'.2 hm'.2 (List.Perm.cons_inv hp)]
theorem dif_perm {l m:List Ce} (hp:l.Perm m) (h:Dif l):Dif m:=by
 have:(m.map (·.1)).Nodup:=((hp.map _).nodup_iff).1 (by rw[List.nodup_iff_pairwise_ne,List.pairwise_map];exact h)
 rwa [List.nodup_iff_pairwise_ne,List.pairwise_map]at this
theorem srt_of_nt {l:List Ce} (hd:Dif l) (h:l.Pairwise fun a b=>ltC b a=false):Srt l:=
 (hd.and h).imp fun⟨h1,h2⟩=>(ltC_tot h1).resolve_right (by rw[h2];simp)
def cellsF:Nat→List Int→List Ce
 | _,[]=>[]
 | k,x::l=>((k:Int),inI x)::cellsF (k+1) l
abbrev cellsR (row:List Int):List Ce:=cellsF 0 row
theorem cellsF_length:∀k row,(cellsF k row).length=row.length
 | _,[]=>rfl
 | k,_::l=>by simp[cellsF,cellsF_length (k+1) l]
theorem cellsF_get:∀ {k row i},(cellsF k row)[i]?=(row[i]?).map fun x=>(((k+i:Nat):Int),inI x)
 | _,[],_=>rfl
 | k,x::l,0=>rfl
 | k,x::l,i+1=>by
  simp only[cellsF,List.getElem?_cons_succ];rw[cellsF_get (k:=k+1),show k+1+i=k+(i+1) by omega]
theorem cellsR_get {row:List Int} {i:Nat}:(cellsR row)[i]?=(row[i]?).map fun x=>((i:Int),inI x):=by
 rw[cellsF_get,Nat.zero_add]
theorem cellsR_snoc (row:List Int) (m:Nat) (x:Int) (hx:row[m]?=some x):(cellsR row).take (m+1)=(cellsR row).take m++[((m:Int),inI x)]:=by
 rw[List.take_add_one,cellsR_get,hx];rfl
theorem cells_dif (row:List Int):Dif (cellsR row):=by
 rw[Dif,List.pairwise_iff_getElem];intro i j hi hj hij e;have h1:=List.getElem?_eq_getElem hi;have h2:=List.getElem?_eq_getElem hj;rw[cellsR_get,Option.map_eq_some_iff]at h1 h2;obtain⟨x,_,h1⟩:=h1;obtain⟨y,_,h2⟩:=h2;rw[←h1,←h2]at e;simp only at e;omega
def srt (row:List Int):List Ce:=srtC (cellsR row)
theorem srt_perm (row:List Int):(srt row).Perm (cellsR row):=srtC_perm _
theorem srt_srt (row:List Int):Srt (srt row):=srtC_srt (cells_dif row)
theorem srt_length (row:List Int):(srt row).length=row.length:=by rw[(srt_perm row).length_eq,cellsF_length]
theorem srt_eq {row:List Int} {l:List Ce} (hp:l.Perm (cellsR row)) (h:l.Pairwise fun a b=>ltC b a=false):l=srt row:=
 srt_uni (srt_of_nt (dif_perm hp.symm (cells_dif row)) h) (srt_srt row) (hp.trans (srt_perm row).symm)
def insI (x:Int):List Int→List Int
 | []=>[x]
 | y::l=>if x≤y then x::y::l else y::insI x l
def srtI:List Int→List Int
 | []=>[]
 | x::l=>insI x (srtI l)
theorem insI_perm (x:Int):∀l,(insI x l).Perm (x::l)
 | []=>.refl _
 | y::l=>by
  unfold insI
  split
  ·exact .refl _
  ·exact((insI_perm x l).cons y).trans (.swap _ _ _)
theorem srtI_perm:∀l,(srtI l).Perm l
 | []=>.refl _
 | x::l=>(insI_perm x _).trans ((srtI_perm l).cons x)
theorem insI_srt {x:Int}:∀ {l:List Int},l.Pairwise (·≤·)→(insI x l).Pairwise (·≤·)
 | [],_=>List.pairwise_singleton _ _
 | y::l,h=>by
  have h':=List.pairwise_cons.1 h;unfold insI
  split
  ·rename_i hlt;refine List.pairwise_cons.2 ⟨fun z hz=>?_,h⟩
   rcases List.mem_cons.1 hz with rfl | hz
   ·exact hlt
   ·exact Int.le_trans hlt (h'.1 z hz)
  ·rename_i hlt;refine List.pairwise_cons.2 ⟨fun z hz=>?_,insI_srt h'.2⟩
   rcases List.mem_cons.1 ((insI_perm x l).mem_iff.1 hz) with rfl | hz
   ·omega
   ·exact h'.1 z hz
theorem srtI_srt:∀l,(srtI l).Pairwise (·≤·)
 | []=>.nil
 | x::l=>insI_srt (srtI_srt l)
theorem srtI_uni:∀ {l m:List Int},l.Pairwise (·≤·)→m.Pairwise (·≤·)→l.Perm m→l=m
 | [],m,_,_,hp=>(List.nil_perm.1 hp).symm
 | a::l,[],_,_,hp=>by have:=hp.length_eq;simp at this
 | a::l,b::m,hl,hm,hp=>by
  have hl':=List.pairwise_cons.1 hl;have hm':=List.pairwise_cons.1 hm
  have e:a=b:=by
   rcases List.mem_cons.1 (hp.mem_iff.1 (List.mem_cons_self ..)) with e | h1
   ·exact e
   ·rcases List.mem_cons.1 (hp.mem_iff.2 (List.mem_cons_self ..)) with e | h2
    ·exact e.symm
    ·exact Int.le_antisymm (hl'.1 b h2) (hm'.1 a h1)
  subst e;rw[srtI_uni hl'.2 hm'.2 (List.Perm.cons_inv hp)]
theorem mergeSort_srtI (l:List Int):l.mergeSort (fun x y=>decide (x≤y))=srtI l:=by
 refine srtI_uni ?_ (srtI_srt l) ((List.mergeSort_perm l _).trans (srtI_perm l).symm);have:=List.pairwise_mergeSort (le:=fun x y:Int=>decide (x≤y)) (fun a b c h1 h2=>by simp only[decide_eq_true_eq]at *;omega) (fun a b=>by simp only[Bool.or_eq_true,decide_eq_true_eq];omega) l;exact this.imp fun h=>by simpa using h
def kth (row:List Int) (k:Nat):Option Int:=if k≤row.length then ((srt row)[k-1]?).map (·.2) else none
def chosen (row:List Int) (k:Nat):List Int:=srtI (((srt row).take k).map (·.1))
def comb (b:Option (Int×Nat)) (i:Nat) (v:Option Int):Option (Int×Nat):=
 match v with
 | none=>b
 | some v=>match b with
  | none=>some (v,i)
  | some (u,j)=>if v<u then some (v,i) else some (u,j)
def bestUp (k:Nat) (D:List (List Int)):Nat→Option (Int×Nat)
 | 0=>none
 | n+1=>comb (bestUp k D n) n ((D[n]?).bind fun row=>kth row k)
structure St where
 at_:Int
 row:Int
 nodes:List Int
 ok:Bool
 deriving DecidableEq
instance:Inhabited St:=⟨⟨0,0,[],false⟩⟩
def firstR (D:List (List Int)) (k:Int):St:=
 if k<1 then ⟨0,0,[],false⟩ else match bestUp k.toNat D D.length with
  | none=>⟨0,0,[],false⟩
  | some (v,i)=>⟨v,i,chosen (D[i]?.getD []) k.toNat,true⟩
def setN (v:Int) (row:List Int) (n:Int):List Int:=if 0≤n∧n<row.length then row.set n.toNat v else row
def setAll (v:Int) (row:List Int) (ns:List Int):List Int:=ns.foldl (setN v) row
def raiseR (D:List (List Int)) (r:Int) (ns:List Int) (v:Int):List (List Int):=if 0≤r∧r<D.length then D.set r.toNat (setAll v (D[r.toNat]?.getD []) ns) else D
def resR (D:List (List Int)) (s:St) (len:Int):List (List Int):=
 if s.ok then raiseR D s.row s.nodes (addI s.at_ (max len 1)) else D
structure Ak where
 k:Int
 len:Int
 deriving DecidableEq
instance:Inhabited Ak:=⟨⟨0,0⟩⟩
def planR (D:List (List Int)):List Ak→List St
 | []=>[]
 | a::l=>firstR D a.k::planR (resR D (firstR D a.k) a.len) l
theorem planR_length:∀(l:List Ak) D,(planR D l).length=l.length
 | [],_=>rfl
 | a::l,D=>by simp[planR,planR_length l]
theorem setN_length (v:Int) (row:List Int) (n:Int):(setN v row n).length=row.length:=by unfold setN;split <;> simp
theorem setAll_length (v:Int):∀(ns:List Int) (row:List Int),(setAll v row ns).length=row.length
 | [],_=>rfl
 | n::ns,row=>by
  show (setAll v (setN v row n) ns).length=_;rw[setAll_length v ns,setN_length]
theorem raiseR_lens (D:List (List Int)) (r:Int) (ns:List Int) (v:Int):(raiseR D r ns v).map List.length=D.map List.length:=by
 unfold raiseR
 split
 ·rename_i h;refine List.ext_getElem? fun i=>?_;rw[List.getElem?_map,List.getElem?_map,List.getElem?_set]
  split
  ·rename_i e;subst e;rw[if_pos (by omega),List.getElem?_eq_getElem (show r.toNat<D.length by omega)];simp[setAll_length]
  ·rfl
 ·rfl
theorem resR_lens (D:List (List Int)) (s:St) (len:Int):(resR D s len).map List.length=D.map List.length:=by
 unfold resR
 split
 ·exact raiseR_lens ..
 ·rfl
def profAt (D:List (List Int)):List Ak→List (List Int)
 | []=>D
 | a::l=>profAt (resR D (firstR D a.k) a.len) l
theorem profAt_lens:∀(l:List Ak) (D:List (List Int)),(profAt D l).map List.length=D.map List.length
 | [],_=>rfl
 | a::l,D=>by
  show (profAt (resR D (firstR D a.k) a.len) l).map List.length=_;rw[profAt_lens l,resR_lens]
theorem profAt_snoc (a:Ak):∀(l:List Ak) (D:List (List Int)),profAt D (l++[a])=resR (profAt D l) (firstR (profAt D l) a.k) a.len
 | [],_=>rfl
 | b::l,D=>profAt_snoc a l _
theorem planR_snoc (a:Ak):∀(l:List Ak) (D:List (List Int)),planR D (l++[a])=planR D l++[firstR (profAt D l) a.k]
 | [],_=>rfl
 | b::l,D=>by
  show firstR D b.k::planR _ (l++[a])=firstR D b.k::(planR _ l++[_]);rw[planR_snoc a l];rfl
open Go.Sort (SWO putCells putRow mapBlock grow onCells flatK HoldsK putRowK)
theorem cin_P (x:Int) (W:World):PureS Tryz.prog 125 [.int .i64 x] W (.int .i64 (inI x)):=by
 refine Zbd Tryz.func125 rfl Tryz.ntmps125 fun w0 Γ=>Zsh ?_;refine ZY 7 ?_;refine Zv (q_max (if x<0 then 0 else x) rfl rfl (by split <;> omega)) ?_;refine Zv (q_min (inI x) rfl rfl (by unfold inI;split <;> (try split) <;> omega)) ?_;refine ZY 3 ?_;exact Zf ef Zq (⟨rfl,rfl⟩)
theorem cAdd_P (x y:Int) (W:World):PureS Tryz.prog 134 [.int .i64 x,.int .i64 y] W (.int .i64 (addI x y)):=by
 refine Zbd Tryz.func134 rfl Tryz.ntmps134 fun w0 Γ=>Zsh ?_;have h1:=inI_nn x;have h2:=inI_nn y;refine ZY 7 ?_;refine Zp (S.callP Eo.h (vs:=[_]) ⟨rfl,trivial⟩ (fun w hs=>cin_P x w) rfl ?_);refine Zy ?_;refine Zp (S.callP Eo.h (vs:=[_]) ⟨rfl,trivial⟩ (fun w hs=>cin_P y w) rfl ?_);refine Zv (Za ef ef) ?_;refine Zp (S.callP Eo.h (vs:=[_]) ⟨rfl,trivial⟩ (fun w hs=>cin_P (inI x+inI y) w) rfl ?_);refine ZY 3 ?_;exact Zf ef Zq (⟨rfl,rfl⟩)
theorem pin_P (x:Int) (W:World):PureS Tryz.prog 172 [.int .i64 x] W (.int .i64 (inI x)):=by
 refine Zbd Tryz.func172 rfl Tryz.ntmps172 fun w0 Γ=>Zsh ?_;have e:addI x 0=inI x:=by unfold addI;rw[show inI 0=0 from rfl,Int.add_zero,inI_inI]
 refine ZY 7 ?_;refine Zp (S.callP Eo.h (vs:=[_,_]) ⟨rfl,rfl,trivial⟩ (fun w hs=>cAdd_P x 0 w) rfl ?_);refine ZY 3 ?_;exact Zf ef Zq (⟨by simp only[resV];rw[e],rfl⟩)
def cmpI (a b:Int):Int:=if a<b then -1 else if b<a then 1 else 0
theorem isNaN_P (x:Int) (W:World):PureS Tryz.prog 152 [.int .i64 x] W (.bool false):=by
 refine Zbd Tryz.func152 rfl Tryz.ntmps152 fun w0 Γ=>Zsh ?_;refine ZY 8 ?_;refine ZY 4 ?_;exact Zf ef Zq (⟨by simp only[resV];rw[decide_eq_false (fun h=>h rfl)],rfl⟩)
theorem Compare_P (x y:Int) (W:World):PureS Tryz.prog 122 [.int .i64 x,.int .i64 y] W (.int .i64 (cmpI x y)):=by
 refine Zbd Tryz.func122 rfl Tryz.ntmps122 fun w0 Γ=>Zsh ?_;refine ZY 7 ?_;refine Zp (S.callP Eo.h (vs:=[_]) ⟨rfl,trivial⟩ (fun w hs=>isNaN_P x w) rfl ?_);refine ZY 5 ?_;refine Zp (S.callP Eo.h (vs:=[_]) ⟨rfl,trivial⟩ (fun w hs=>isNaN_P y w) rfl ?_);refine ZY 7 ?_;refine ZF ef ?_;refine ZY 6 ?_;refine ZF ef ?_;refine ZY 8 ?_
 refine Zj ef (fun h4=>?_) (fun h4=>?_)
 ·refine ZY 5 ?_;exact Zf ef Zq (⟨by simp only[resV,cmpI];rw[if_pos (by assumption)],rfl⟩)
 ·refine ZY 8 ?_
  refine Zj ef (fun h5=>?_) (fun h5=>?_)
  ·refine ZY 5 ?_;exact Zf ef Zq (⟨by simp only[resV,cmpI];rw[if_neg (by assumption),if_pos (by assumption)],rfl⟩)
  ·refine ZY 6 ?_;exact Zf ef Zq (⟨by simp only[resV,cmpI];rw[if_neg (by assumption),if_neg (by assumption)],rfl⟩)
def orI:List Int→Int
 | []=>0
 | x::l=>if x≠0 then x else orI l
theorem Or_P (s:SV) (l:List Int) (W:World) (hn:s.n=l.length) (h0:SlAt W s.v l.length 1 (ints l)):PureS Tryz.prog 121 [s.v] W (.int .i64 (orI l)):=by
 have hm0:=slAt_cap h0;unfold maxLen at hm0;refine Zbd Tryz.func121 rfl Tryz.ntmps121 fun w0 Γ=>Zsh ?_;refine ZY 8 ?_;refine ZY 8 ?_;refine Zl (fun m ρ' Γ'=>∃k:Nat,m+k=l.length∧orI l=orI (l.drop k)∧ρ'=[(3,.int .i64 0),(6,s.v),(7,.int .i64 s.n),(8,.int .i64 k)]∧Γ'=old W::Γ) (m:=_) (⟨0,rfl,rfl,rfl,rfl⟩) ?_;rintro m ρ' Γ' ⟨k,hmk,hor,rfl,rfl⟩;refine ZY 5 ?_
 refine Zj ef (fun h1=>?_) (fun h1=>?_)
 ·obtain⟨x,hx⟩:=getE (l:=l) (i:=k) (by omega);obtain⟨b,off,hb,hcell⟩:=slAt_some h0 (by omega)
  have hxd:l.drop k=x::l.drop (k+1):=by
   have hkl:=(List.getElem?_eq_some_iff.1 hx);rw[List.drop_eq_getElem_cons hkl.1,hkl.2]
  refine ZY 5 ?_;refine Zv (Zx (k) ef (hb) ef (by omega)) ?_;refine Zv (q_loadW Eo.h rfl (hcell _ _ (by rw[Nat.mul_one,List.getElem?_map,hx];rfl))) ?_;refine ZY 8 ?_
  refine Zj ef (fun h2=>?_) (fun h2=>?_)
  ·refine ZY 6 ?_;exact Zf ef Zq (⟨by simp only[resV];rw[hor,hxd,orI,if_pos (by assumption)],rfl⟩)
  ·refine ZY 2 ?_;refine Zv (Za ef ef) ?_;refine ZY 2 ?_;exact ZX (m-1) (⟨k+1,by omega,by rw[hor,hxd,orI,if_neg (by assumption)],rfl,rfl⟩) (by omega)
 ·refine ZY 7 ?_;exact Zf ef Zq (⟨by simp only[resV];rw[hor,List.drop_eq_nil_of_le (by omega),orI],rfl⟩)
abbrev ceC (c:Ce):List Value:=[.int .i64 c.1,.int .i64 c.2]
theorem ceC_len:∀c,(ceC c).length=2:=fun _=>rfl
def ordC (a b:Ce):Int:=orI [cmpI a.2 b.2,cmpI a.1 b.1]
theorem ordC_lt (a b:Ce):decide (ordC a b<0)=ltC a b:=by
 unfold ordC orI orI orI cmpI ltC;refine decide_eq_decide.2 ?_;split <;> split <;> (try split) <;> (try split) <;> omega
theorem ltOrdC (x y:Ce):Go.Proofs.ltOf ordC x y=ltC x y:=ordC_lt x y
theorem swoC:Go.Sort.SWO (Go.Proofs.ltOf ordC) where
 irrefl x:=by rw[ltOrdC];exact ltC_irr x
 trans x y z h1 h2:=by rw[ltOrdC]at *;exact ltC_tr h1 h2
 ntrans x y z h1 h2:=by rw[ltOrdC]at *;exact ltC_nt h1 h2
theorem order_P (x y:Ce) (W:World):PureS Tryz.prog 174 [.agg (ceC x).toArray,.agg (ceC y).toArray] W (.int .i64 (ordC x y)):=by
 refine Zbd Tryz.func174 rfl Tryz.ntmps174 fun w0 Γ=>Zsh ?_;refine ZY 2 ?_;refine Zp (S.box (cs:=[_,_]) rfl rfl rfl ?_);intro b2;refine Zp (S.box (cs:=[_,_]) rfl rfl rfl ?_);intro b3;refine ZY 3 ?_;refine Zd ([blk b2 232 (ceC x).toArray,blk b3 232 (ceC y).toArray]) [] [0,1,2,3,5,6,7,8] ?_;refine ZY 8 ?_;refine Z1 (i:=4) ef ef ?_;refine(S.callP Eo.h (vs:=[_,_]) ⟨rfl,rfl,trivial⟩ (fun w hs=>Compare_P x.2 y.2 w) rfl ?_);refine Zk [] ?_;refine Z1 (i:=9) ef ef ?_;refine(S.callP Eo.h (vs:=[_,_]) ⟨rfl,rfl,trivial⟩ (fun w hs=>Compare_P x.1 y.1 w) rfl ?_);refine Zk [] ?_;refine Z1 (i:=10) ef ef ?_;refine(S.buildSlice (pvs:=[(_,_),(_,_)]) [_,_] Tryz.underlying66 Tryz.inf3.h rfl rfl ⟨⟨rfl,rfl⟩,⟨rfl,rfl⟩,trivial⟩ rfl rfl ?_);intro b15;refine Zk [] ?_;refine Z1 (i:=11) ef ef ?_;refine(S.callP Eo.h (vs:=[_]) ⟨rfl,trivial⟩ (fun w hs=>Or_P ⟨some ⟨b15,0,none⟩,2,2⟩ [cmpI x.2 y.2,cmpI x.1 y.1] w rfl (blk_slAt (b:=b15) rfl (show 2≤maxLen by unfold maxLen;omega) w hs)) rfl ?_);refine Zk [12] ?_;refine Zy ?_;refine ZD ?_;refine Zy ?_;exact Zf ef Zq (⟨rfl,rfl⟩)
theorem SortC_S (s:SV) (l:List Ce) (hl:l.length≤1000000):Spec Tryz.prog 173 [s.v,.func (.func 174) #[] #[]] [own s 232 2 (l.flatMap ceC)] fun Γ _ Θ=>
  ∃l':List Ce,l'.Perm l∧l'.Pairwise (fun a b=>ltC b a=false)∧Θ=own s 232 2 (l'.flatMap ceC)::Γ:=by
 have h:=SortFunc_S Tryz.sort173 2 Tryz.isAgg232 Tryz.sizeOf232 ceC ceC_len (by omega) (fun x v hv=>by simp only[ceC,List.mem_cons,List.not_mem_nil,or_false]at hv;rcases hv with rfl | rfl <;> rfl) ordC swoC 174 (enters_of Tryz.func174 (by kernel_rfl) rfl) order_P 232 s l (by omega);simp only[ltOrdC]at h;exact h
end PL
open Go.Sort (putCells putRow mapBlock grow onCells Holds)
theorem putCells_map (off:Nat) (d:List Int) (cur:Array Value):putCells (Value.int .i64) off d.toArray cur=putCells id off (ints d).toArray cur:=by
 unfold putCells;refine congrArg (fun f=>Array.mapIdx f cur) ?_
 funext k x
 have hs:(ints d).toArray.size=d.toArray.size:=by simp
 rw[hs]
 split
 ·rename_i h;have hk:k-off<d.length:=by have:=h.2;simp at this;omega
  rw[getElem!_pos d.toArray (k-off) (by simpa using hk),getElem!_pos (ints d).toArray (k-off) (by simpa using hk)];simp
 ·rfl
theorem putWorld_heap {w:World} {b off n:Nat} {F:Array Value} {os:Array Obj} {cur:Array Value} {e:TypeId} (hb:Blk w b e cur):Blk (grow (mapBlock (Sort.ahead w n) b (putCells id off F)) os) b e (putCells id off F cur) ∧
  Keeps (fun i=>i=b) w (grow (mapBlock (Sort.ahead w n) b (putCells id off F)) os):=by
 have hlt:=hb.lt;have hsz:(mapBlock (Sort.ahead w n) b (putCells id off F)).heap.size=w.heap.size:=by simp[mapBlock]
 have hold:∀i,i<w.heap.size→(grow (mapBlock (Sort.ahead w n) b (putCells id off F)) os).heap[i]?=(w.heap.modify b (onCells (putCells id off F)))[i]?:=fun i hi=>by
  show ((mapBlock (Sort.ahead w n) b (putCells id off F)).heap++os)[i]?=_;rw[Array.getElem?_append_left (by rw[hsz];exact hi)];rfl
 refine⟨?_,rfl,rfl,rfl,?_,fun i hi hne=>?_,?_⟩
 ·unfold Blk;rw[hold b hlt,Array.getElem?_modify,if_pos rfl,show w.heap[b]?=some (.cells cur e (0,0)) from hb];rfl
 ·show w.heap.size≤((mapBlock (Sort.ahead w n) b (putCells id off F)).heap++os).size;rw[Array.size_append,hsz];omega
 ·rw[hold i hi,Array.getElem?_modify,if_neg (fun e=>hne e.symm)]
 ·show w.drawn≤w.drawn+n;omega
theorem SortInts_S {P:Program} {ρ:Go.Shelf.Ren} (L:Lays.n189 P ρ) (e:TypeId) (s:SV) (l:List Int) (hl:l.length<4611686018427387904) :
  Spec P (ρ.f 189) [s.v] [own s e 1 (ints l)] fun Γ _ Θ=>Θ=own s e 1 (ints (l.mergeSort fun x y=>decide (x≤y)))::Γ:=by
 intro Γ w hs;obtain⟨x0,le0,p0⟩:=hs.head;have hO0:=(p0.mono le0).toOwn;have hlen:=hO0.1;rw[List.length_map,Nat.mul_one]at hlen
 by_cases hz:s.n=0
 ·refine(show Calls P (ρ.f 189) #[.slice s.a s.n s.c] w _ from ?_);rw[hz];refine(Any.slices_Sort_int_none L s.a s.c w).mono ?_;rintro e' w' ⟨rfl,rfl⟩;obtain rfl:l=[]:=List.eq_nil_of_length_eq_zero (by omega);exact⟨_,_,rfl,by simp,hs,Ext.refl _⟩
 ·rcases hO0.2 with ⟨_,h3,_⟩ | ⟨b,off,c,cur,q1,q2,hB,q4,q5,q6,q7⟩
  ·omega
  ·simp only[SV.v,Value.slice.injEq,true_and]at q1;obtain⟨q1,rfl⟩:=q1;rw[Nat.mul_one]at q6 q7
   have hH:Holds (Value.int .i64) w b off l.toArray:=by
    intro j hj;have hj':j<l.length:=by simpa using hj
    refine⟨?_,hB.frozen _⟩;rw[hB.cell]
    have e1:(ints l)[j]?=cur[off+j]?:=by
     rw[←q7,List.getElem?_take_of_lt (by omega),List.getElem?_drop,Array.getElem?_toList]
    rw[←e1,getElem!_pos l.toArray j hj,List.getElem?_map,List.getElem?_eq_getElem hj'];rfl
   refine(show Calls P (ρ.f 189) #[.slice s.a s.n s.c] w _ from ?_);have hc:=Any.slices_Sort_int L b off s.c l w hH hB.lt hl;rw[q1,←hlen];refine hc.mono ?_;rintro e' w' ⟨rfl,nn,os,rfl⟩;have hml:(l.mergeSort fun x y=>decide (x≤y)).length=l.length:=(List.mergeSort_perm l _).length_eq;generalize hm:(l.mergeSort fun x y=>decide (x≤y))=m at hml
   have ep:∀w:World,putRow (Value.int .i64) w b off m.toArray=mapBlock w b (putCells id off (ints m).toArray):=fun w=>by
    unfold putRow
    congr 1
    funext cur
    exact putCells_map off m cur
   rw[ep];obtain⟨k1,k2⟩:=putWorld_heap (off:=off) (n:=nn) (F:=(ints m).toArray) (os:=os) hB;have hF:(ints m).toArray.size=s.n:=by simp[hml,hlen]
   refine⟨_,_,rfl,rfl,?_,k2.os,k2.tape,k2.output,k2.size,fun _=>k2.drawn⟩
   refine hs.ownUpd (b:=b) ⟨?_,.inr ⟨b,off,s.c,_,by simp only[SV.v,q1],rfl,k1,q4,q5,?_,?_⟩⟩ (by rw[q1];rfl) k2
   ·simp[hml,hlen]
   ·simp only[putCells,Array.size_mapIdx];omega
   ·have:=putCells_list (off:=off) (F:=(ints m).toArray) (cur:=cur) (by rw[hF];omega);rw[hF]at this;rw[Nat.mul_one];exact this
end Go.Proofs.YtdackcibfkkniaaGreatDoor
namespace Go.Proofs.YtdackcibfkkniaaGreatDoor
namespace PL
open Go.RowKit
theorem SortI_S (s:SV) (l:List Int) (hl:l.length≤1000000):Spec Tryz.prog 147 [s.v] [own s 3 1 (ints l)] fun Γ _ Θ=>Θ=own s 3 1 (ints (srtI l))::Γ:=by
 have h:=SortInts_S Tryz.lays189 3 s l (by omega);rw[mergeSort_srtI]at h;exact h
def soonL (row:List Int) (k:Int):List Ce:=if k≤row.length then (srt row).take k.toNat else []
theorem flat_take {α:Type} {enc:α→List Value} {sz:Nat} (he:∀x,(enc x).length=sz) (os:List α) (k:Nat):(os.flatMap enc).take (k*sz)=(os.take k).flatMap enc:=by
 induction os generalizing k with
 | nil=>simp
 | cons x l ih=>
  cases k with
  | zero=>simp
  | succ k=>
   rw[List.flatMap_cons,List.take_succ_cons,List.flatMap_cons,List.take_append,he,List.take_of_length_le (by rw[he,Nat.succ_mul];omega),show (k+1)*sz-sz=k*sz by rw[Nat.succ_mul];omega,ih]
theorem soonest_S (R:Assn) (s:SV) (row:List Int) (k:Int) (hk:1≤k) (hl:row.length≤1000) (hR:RdS R s row.length 1 (ints row)) :
  Spec Tryz.prog 146 [s.v,.int .i64 k] [R] fun Γ v Θ=>∃u:SV,(k≤row.length→u.n=k.toNat)∧v=.tuple #[u.v,.bool (decide (k≤row.length))]∧Θ=own u 232 2 ((soonL row k).flatMap ceC)::R::Γ:=by
 obtain⟨kn,rfl⟩:∃kn:Nat,k=(kn:Int):=⟨k.toNat,by omega⟩;rw[Int.toNat_natCast];have hsn:soonL row (kn:Int)=if (kn:Int)≤row.length then (srt row).take kn else []:=rfl
 refine Zbd Tryz.func146 rfl Tryz.ntmps146 fun w0 Γ=>Zsh ?_;refine S.rCap hR fun hn _ _=>?_;refine ZY 7 ?_;refine S.ent (show Ent _ (own SV.nil 232 2 (((cellsR row).take 0).flatMap ceC)::_) from Ent.ownNil 232 2) ?_;refine ZY 8 ?_;refine ZY 2 ?_;refine Zl (fun m ρ' Γ'=>∃(i:Nat) (lv:SV),m+i=row.length∧ρ'=[(1,.int .i64 kn),(6,lv.v),(9,s.v),(10,.int .i64 s.n),(11,.int .i64 i)]∧Γ'=own lv 232 2 (((cellsR row).take i).flatMap ceC)::R::Γ) (m:=_) (⟨0,SV.nil,rfl,rfl,rfl⟩) ?_;rintro m ρ' Γ' ⟨i,lv,hmi,rfl,rfl⟩;refine S.ownLen lv fun hlen _ _=>?_;rw[flat_length ceC_len,List.length_take,cellsF_length,Nat.min_eq_left (by omega)]at hlen;refine ZY 5 ?_
 refine Zj ef (fun h1=>?_) (fun h1=>?_)
 ·obtain⟨x,hx⟩:=getE (l:=row) (i:=i) (by omega);refine S.rSome hR (by omega) fun b off hb=>?_;refine ZY 6 ?_;refine Zv (Zx (i) ef (hb) ef (by omega)) ?_;refine Zv (q_loadR hR i Eo.h rfl hb (by omega) (by omega) (ints_get hx)) ?_;refine ZY 7 ?_;refine Zp (S.callP Eo.h (vs:=[_]) ⟨rfl,trivial⟩ (fun w hs=>pin_P x w) rfl ?_);refine Zv (q_build (pvs:=[(_,_),(_,_)]) [_,_] Tryz.z232.h Tryz.p232.h ⟨⟨rfl,rfl⟩,⟨rfl,rfl⟩,trivial⟩ rfl) ?_;refine Zp (S.buildSlice (pvs:=[(_,_)]) [_,_] Tryz.underlying228 Tryz.inf232.h rfl rfl ⟨⟨rfl,rfl⟩,trivial⟩ rfl rfl ?_);intro b21;refine Zp (S.appendOw (s:=lv) (1) (ceC ((i:Int),inI x)) Tryz.underlying228 Tryz.inf232.h rfl rfl rfl (blk_slAt (b:=b21) rfl (by unfold maxLen;omega)) (by first | rfl | exact allOne_bcells _) (⟨by omega,by omega⟩) rfl ?_);intro lv' hlv';rw[show ((cellsR row).take i).flatMap ceC++ceC ((i:Int),inI x)=((cellsR row).take (i+1)).flatMap ceC by rw[cellsR_snoc row i x hx,List.flatMap_append];rfl];refine ZY 3 ?_;refine Zv (Za ef ef) ?_;refine ZY 2 ?_;exact ZX (m-1) (⟨i+1,lv',by omega,rfl,rfl⟩) (by omega)
 ·refine ZY 8 ?_;refine Zy ?_
  refine Zj ef (fun h2=>?_) (fun h2=>?_)
  ·obtain rfl:i=row.length:=by omega
   refine ZY 6 ?_;refine S.ent (show Ent _ (own SV.nil 232 2 (([]:List Ce).flatMap ceC)::_) from Ent.ownNil 232 2) ?_;exact Zf ef Zq (⟨SV.nil,fun h=>by omega,by rw[decide_eq_false (by omega)];rfl,by rw[hsn,if_neg (by omega)]⟩)
  ·obtain rfl:i=row.length:=by omega
   rw[List.take_of_length_le (by rw[cellsF_length];exact Nat.le_refl _)];refine ZY 4 ?_;refine Zp (Zc1 Ze (SortC_S lv (cellsR row) (by rw[cellsF_length];omega)) ?_);rintro v Θ ⟨l',hp,hsr,rfl⟩;obtain rfl:=srt_eq hp hsr;refine ZY 5 ?_;refine S.conv (own lv 232 2 ((srt row).flatMap ceC)) (Ent.ownTake lv 232 2 _ (k:=kn) (by omega) _) ?_;refine Zv (q_sliceTo (kn) Eo.h rfl rfl rfl (by omega)) ?_;refine ZY 4 ?_;exact Zf ef Zq (⟨⟨lv.a,kn,lv.c⟩,fun _=>rfl,by rw[decide_eq_true (by omega)];rfl,by rw[hsn,if_pos (by omega),←flat_take ceC_len]⟩)
set_option linter.unusedVariables false
structure RW where
 v:SV
 d:List Int
instance:Inhabited RW:=⟨⟨SV.nil,[]⟩⟩
abbrev rwC (r:RW):List Value:=[r.v.v]
theorem rwC_len:∀r,(rwC r).length=1:=fun _=>rfl
abbrev rwB (r:RW):Assn:=own r.v 3 1 (ints r.d)
abbrev dat (rs:List RW):List (List Int):=rs.map RW.d
structure RdP (R:Assn) (s:SV) (rs:List RW):Prop where
 top:RdS R s rs.length 1 (rs.flatMap rwC)
 row:∀ {i:Nat} {r:RW},rs[i]?=some r→RdS R r.v r.d.length 1 (ints r.d)
def prof (s:SV) (rs:List RW):Assn:=stars [own s 66 1 (rs.flatMap rwC),alls rs rwB]
theorem Ent.prof (s:SV) (rs:List RW) (Γ:List Assn):Ent (own s 66 1 (rs.flatMap rwC)::alls rs rwB::Γ) (prof s rs::Γ):=Ent.pack [_,_] Γ
theorem Ent.unprof (s:SV) (rs:List RW) (Γ:List Assn):Ent (Go.Proofs.YtdackcibfkkniaaGreatDoor.PL.prof s rs::Γ) (own s 66 1 (rs.flatMap rwC)::alls rs rwB::Γ):=Ent.unpack [_,_] Γ
theorem RdP.prof (s:SV) (rs:List RW):RdP (prof s rs) s rs:=by
 refine⟨fun Γ w hs=>?_,fun {i r} hr Γ w hs=>?_⟩
 ·have h1:=hs.ent (Ent.unprof s rs Γ);have h2:=(HasOw.head).slAt h1;obtain⟨x,_,p⟩:=h1.head;have h3:=p.1;rw[flat_length rwC_len,Nat.mul_one,Nat.mul_one]at h3
  rwa [←h3]at h2
 ·have h1:=(hs.ent (Ent.unprof s rs Γ)).ent ((Ent.drop _ _).trans (Ent.allsAt rwB hr Γ));have h2:=(HasOw.head).slAt h1;obtain⟨x,_,p⟩:=h1.head;have h3:=p.1;rw[List.length_map,Nat.mul_one]at h3
  rwa [←h3]at h2
abbrev stC (u:SV) (x:St):List Value:=[.int .i64 x.at_,.int .i64 x.row,u.v,.bool x.ok]
def accR (D:List (List Int)) (k n:Nat):St:=match bestUp k D n with
 | none=>⟨0,0,[],false⟩
 | some (v,i)=>⟨v,i,((srt (D[i]?.getD [])).take k).map (·.1),true⟩
theorem accR_succ {D:List (List Int)} {k n:Nat} {row:List Int} (hr:D[n]?=some row) (hk:1≤k) {ck:Ce} (hck:k≤row.length→(srt row)[k-1]?=some ck) :
  accR D k (n+1)=if (decide (k≤row.length)&&(!(accR D k n).ok || decide (ck.2<(accR D k n).at_)))=true then ⟨ck.2,n,((srt row).take k).map (·.1),true⟩ else accR D k n:=by
 unfold accR;simp only[bestUp,hr,Option.bind_some,kth]
 by_cases h:k≤row.length
 ·rw[if_pos h,hck h];simp only[Option.map_some,comb,decide_eq_true h,Bool.true_and];cases bestUp k D n with
  | none=>simp[hr]
  | some x=>
   obtain⟨u,j⟩:=x;simp only[Bool.not_true,Bool.false_or,decide_eq_true_eq]
   by_cases h2:ck.2<u
   ·rw[if_pos h2,if_pos h2];simp[hr]
   ·rw[if_neg h2,if_neg h2]
 ·rw[if_neg h];simp[comb,h]
theorem firstR_acc {D:List (List Int)} {k:Nat} (hk:1≤k):firstR D k=⟨(accR D k D.length).at_,(accR D k D.length).row,srtI (accR D k D.length).nodes,(accR D k D.length).ok⟩:=by
 unfold firstR accR;rw[if_neg (by omega),Int.toNat_natCast];cases bestUp k D D.length with
 | none=>rfl
 | some x=>rfl
set_option linter.unusedVariables false
theorem S.ownIf {n:Nat} {md:Bool} {w0:WM md} {ρ:Env} {Γ:List Assn} {φ:Act→World→Prop} (s:SV) {e:TypeId} {sz:Nat} {xs:List Value} {Δ:List Assn} [h:HasOw Γ s e sz xs Δ] (k:∀b off,(0<s.n→s.a=some ⟨b,off,none⟩)→xs.length=s.n*sz→s.n≤s.c→s.c≤maxLen→S n w0 ρ Γ φ):S n w0 ρ Γ φ:=by
 by_cases hn:0<s.n
 ·exact S.ownSome s hn fun b off hb h1 h2 h3=>k b off (fun _=>hb) h1 h2 h3
 ·exact S.ownLen s fun h1 h2 h3=>k 0 0 (fun h=>absurd h hn) h1 h2 h3
theorem first_none {D:List (List Int)} {k:Int} (h:k<1):firstR D k=⟨0,0,[],false⟩:=by unfold firstR;rw[if_pos h]
theorem soonL_nat {row:List Int} {k:Nat} (h:k≤row.length):soonL row (k:Int)=(srt row).take k:=by unfold soonL;rw[if_pos (by omega),Int.toNat_natCast]
theorem acc_len {D:List (List Int)} {k n:Nat} (h:∀row∈D,row.length≤1000):(accR D k n).nodes.length≤1000:=by
 unfold accR;cases bestUp k D n with
 | none=>simp
 | some x=>
  obtain⟨v,i⟩:=x;simp only[List.length_map,List.length_take,srt_length];cases hi:D[i]? with
  | none=>simp
  | some row=>have:=h row (List.mem_of_getElem? hi);simp only[Option.getD_some];omega
theorem tk_a {k n:Nat} {ok:Bool} {a b:Int} (h:(!decide ((k:Int)≤n))=true):true=!(decide (k≤n)&&(!ok || decide (a<b))):=by
 have:¬k≤n:=by simpa using h
 rw[decide_eq_false this];rfl
theorem tk_b {k n:Nat} {ok:Bool} {a b:Int} (h:k≤n) (h2:ok=false):false=!(decide (k≤n)&&(!ok || decide (a<b))):=by
 rw[decide_eq_true h,h2];rfl
theorem tk_c {k n:Nat} {ok:Bool} {a b:Int} (h:k≤n) (h2:ok=true):decide (b≤a)=!(decide (k≤n)&&(!ok || decide (a<b))):=by
 rw[decide_eq_true h,h2,Bool.true_and,Bool.not_true,Bool.false_or]
 by_cases h3:a<b
 ·rw[decide_eq_true h3,decide_eq_false (by omega)];rfl
 ·rw[decide_eq_false h3,decide_eq_true (by omega)];rfl
theorem not_t {c T:Bool} (hc:c=!T) (h:c=true):T=false:=by subst h;cases T <;> simp_all
theorem not_f {c T:Bool} (hc:c=!T) (h:c=false):T=true:=by subst h;cases T <;> simp_all
set_option maxHeartbeats 1000000 in
theorem First_S (R:Assn) (s:SV) (rs:List RW) (k len:Int) (hl:rs.length≤1000) (hrl:∀r∈rs,r.d.length≤1000) (hR:RdP R s rs) :
  Spec Tryz.prog 113 [s.v,.agg #[.int .i64 k,.int .i64 len]] [R] fun Γ v Θ=>∃u:SV,v=.agg (stC u (firstR (dat rs) k)).toArray∧Θ=own u 3 1 (ints (firstR (dat rs) k).nodes)::R::Γ:=by
 refine Zbd Tryz.func113 rfl Tryz.ntmps113 fun w0 Γ=>Zsh ?_;refine S.rCap hR.top fun hn _ _=>?_;refine ZY 2 ?_;refine Zp (S.box (cs:=[_,_]) rfl rfl rfl ?_);intro b3;refine Zp (S.alloc Tryz.z146.h rfl ?_);intro b4;refine ZY 3 ?_;refine Zp (S.alloc Tryz.z146.h rfl ?_);intro b5;refine ZY 8 ?_
 refine Zj ef (fun h1=>?_) (fun h1=>?_)
 ·refine ZY 3 ?_;refine Zp (Zs ef ef (cs':=[_,_,_,_]) ef ?_);refine ZY 2 ?_;refine S.ent (show Ent _ (own SV.nil 3 1 (ints [])::_) from Ent.ownNil 3 1) ?_;exact Zf ef Zq (⟨SV.nil,by rw[first_none (by assumption)];rfl,by rw[first_none (by assumption)]⟩)
 ·obtain⟨kn,rfl⟩:∃kn:Nat,k=(kn:Int):=⟨k.toNat,by omega⟩;refine S.ent (show Ent _ (own SV.nil 3 1 (ints (St.mk 0 0 [] false).nodes)::_) from Ent.ownNil 3 1) ?_;refine ZY 8 ?_;refine Zy ?_;refine Zl (fun m ρ' Γ'=>∃(i:Nat) (u:SV) (x:St),m+i=rs.length∧x=accR (dat rs) kn i∧ρ'=[(3,.pointer (some ⟨b3,0,none⟩)),(4,.pointer (some ⟨b4,0,none⟩)),(5,.pointer (some ⟨b5,0,none⟩)),(16,s.v),(17,.int .i64 s.n),(18,.int .i64 i)]∧Γ'=blk b5 146 (stC u x).toArray::own u 3 1 (ints x.nodes)::blk b3 139 #[.int .i64 kn,.int .i64 len]::blk b4 146 #[.int .i64 0,.int .i64 0,.slice none 0 0,.bool false]::R::Γ) (m:=_) (⟨0,SV.nil,⟨0,0,[],false⟩,rfl,rfl,rfl,rfl⟩) ?_;rintro m ρ' Γ' ⟨i,u,x,hmi,hx,rfl,rfl⟩;refine ZY 5 ?_
  refine Zj ef (fun h2=>?_) (fun h2=>?_)
  ·obtain⟨r,hr⟩:=getE (l:=rs) (i:=i) (by omega);have hrd:r.d.length≤1000:=hrl r (List.mem_of_getElem? hr)
   obtain⟨ck,hck⟩:∃ck,kn≤r.d.length→(srt r.d)[kn-1]?=some ck:=by
    by_cases h:kn≤r.d.length
    ·obtain⟨c,hc⟩:=getE (l:=srt r.d) (i:=kn-1) (by rw[srt_length];omega);exact⟨c,fun _=>hc⟩
    ·exact⟨(0,0),fun h'=>absurd h' h⟩
   have hsucc:=accR_succ (D:=dat rs) (n:=i) (by rw[List.getElem?_map,hr];rfl) (show 1≤kn by omega) hck;rw[←hx]at hsucc;refine S.rSome hR.top (by omega) fun b off hb=>?_;refine ZY 2 ?_
   refine Zc (fun ρ' Γ'=>∃(u2:SV) (x2:St),x2=accR (dat rs) kn (i+1)∧ρ'=[(3,.pointer (some ⟨b3,0,none⟩)),(4,.pointer (some ⟨b4,0,none⟩)),(5,.pointer (some ⟨b5,0,none⟩)),(16,s.v),(17,.int .i64 s.n),(18,.int .i64 i)]∧Γ'=blk b5 146 (stC u2 x2).toArray::own u2 3 1 (ints x2.nodes)::blk b3 139 #[.int .i64 kn,.int .i64 len]::blk b4 146 #[.int .i64 0,.int .i64 0,.slice none 0 0,.bool false]::R::Γ) ?_ ?_
   ·refine ZY 4 ?_;refine Zv (Zx (i) ef (hb) ef (by omega)) ?_;refine Zv (q_loadR hR.top (i*1) Eo.h rfl hb (by omega) rfl (flat_get (enc:=rwC) (sz:=1) (k:=0) rwC_len hr rfl)) ?_;refine ZY 8 ?_;refine Zp (Zc1 Ze (soonest_S R r.v r.d kn (by omega) hrd (hR.row hr)) ?_);rintro v Θ ⟨lu,hlu,rfl,rfl⟩;rw[Int.toNat_natCast]at hlu;refine S.ownIf lu fun b' off' hb' hll hlc hlm=>?_
    have hseg:kn≤r.d.length→∀j v,(ceC ck)[j]?=some v→((soonL r.d kn).flatMap ceC)[(kn-1)*2+j]?=some v:=fun h=>by
     refine flat_seg (enc:=ceC) (sz:=2) ceC_len ?_;rw[soonL_nat h,List.getElem?_take_of_lt (by omega)];exact hck h
    refine ZY 8 ?_
    refine Zc (fun ρ' Γ'=>∃c:Bool,c=!(decide (kn≤r.d.length)&&(!x.ok || decide (ck.2<x.at_)))∧ρ'=[(3,.pointer (some ⟨b3,0,none⟩)),(4,.pointer (some ⟨b4,0,none⟩)),(5,.pointer (some ⟨b5,0,none⟩)),(6,.int .i64 i),(8,lu.v),(16,s.v),(17,.int .i64 s.n),(18,.int .i64 i),(47,.bool c)]∧Γ'=own lu 232 2 ((soonL r.d kn).flatMap ceC)::blk b5 146 (stC u x).toArray::own u 3 1 (ints x.nodes)::blk b3 139 #[.int .i64 kn,.int .i64 len]::blk b4 146 #[.int .i64 0,.int .i64 0,.slice none 0 0,.bool false]::R::Γ) ?_ ?_
    ·refine Zd ([own lu 232 2 ((soonL r.d kn).flatMap ceC),blk b5 146 (stC u x).toArray,blk b3 139 #[.int .i64 kn,.int .i64 len]]) [] [0,1,2] ?_;refine ZY 3 ?_
     refine Zbb 32 ef (fun hg8_2=>?_) (fun hg8_2=>?_)
     ·refine Zr (Zra 3 15) ?_;refine ZY 8 ?_;refine ZY 7 ?_;refine ZD ?_;first | exact S.meet ⟨_,by first | exact tk_a hg8_2 | exact tk_b hkl hg8_5 | exact tk_c hkl hg8_5,rfl,rfl⟩ ⟨rfl,rfl,rfl,rfl,rfl,rfl,rfl,rfl,rfl,trivial⟩ Sub.ent
     ·have hkl:kn≤r.d.length:=by simpa using hg8_2
      refine Zr [3,4,5] ?_;refine ZY 3 ?_
      refine Zbb 35 ef (fun hg8_5=>?_) (fun hg8_5=>?_)
      ·refine Zr (Zra 6 12) ?_;refine ZY 3 ?_;refine Zwg ef ef ef ef (Zm ef ef) ?_;refine Zwg ef ef ef ef (Zx (kn-1) ef ((hb' (by omega))) ef (by omega) ((by omega))) ?_;refine Zy ?_;refine Zwg ef ef ef ef (Zo (lu) ((kn-1)*2+1) ef ((hb' (by omega))) (hseg hkl 1 _ rfl)) ?_;refine ZY 5 ?_;refine ZD ?_;first | exact S.meet ⟨_,by first | exact tk_a hg8_2 | exact tk_b hkl hg8_5 | exact tk_c hkl hg8_5,rfl,rfl⟩ ⟨rfl,rfl,rfl,rfl,rfl,rfl,rfl,rfl,rfl,trivial⟩ Sub.ent
      ·refine Zr (Zra 6 12) ?_;refine ZY 8 ?_;refine ZY 4 ?_;refine ZD ?_;first | exact S.meet ⟨_,by first | exact tk_a hg8_2 | exact tk_b hkl hg8_5 | exact tk_c hkl hg8_5,rfl,rfl⟩ ⟨rfl,rfl,rfl,rfl,rfl,rfl,rfl,rfl,rfl,trivial⟩ Sub.ent
    ·rintro ρ' Γ' ⟨c,hc,rfl,rfl⟩
     refine Zi ef (fun h3=>?_) (fun h3=>?_)
     ·have htk:(decide (kn≤r.d.length)&&(!x.ok || decide (ck.2<x.at_)))=false:=not_t hc h3;rw[if_neg (by rw[htk];simp)]at hsucc;refine Zy ?_;first | exact S.meet ⟨u,x,hsucc.symm,rfl,rfl⟩ ⟨rfl,rfl,rfl,rfl,rfl,rfl,trivial⟩ Sub.ent | exact S.meet ⟨u2,⟨ck.2,i,L.map (·.1),true⟩,hsucc.symm,rfl,rfl⟩ ⟨rfl,rfl,rfl,rfl,rfl,rfl,trivial⟩ Sub.ent
     ·have htk:(decide (kn≤r.d.length)&&(!x.ok || decide (ck.2<x.at_)))=true:=not_f hc h3;rw[if_pos htk]at hsucc;have hkl:kn≤r.d.length:=by rw[Bool.and_eq_true]at htk;simpa using htk.1
      have hln:=hlu (by omega);obtain⟨L,hL⟩:∃L,L=(srt r.d).take kn:=⟨_,rfl⟩;have hLl:L.length=kn:=by rw[hL,List.length_take,srt_length];omega
      rw[soonL_nat hkl,←hL]at hseg;rw[soonL_nat hkl,←hL];rw[←hL]at hsucc;refine ZY 6 ?_;refine Zv (Zm ef ef) ?_;refine Zv (Zx (kn-1) ef ((hb' (by omega))) ef (by omega) ((by omega))) ?_;refine Zy ?_;refine Zv (Zo (lu) ((kn-1)*2+1) ef ((hb' (by omega))) (hseg hkl 1 _ rfl)) ?_;refine Zy ?_;refine Zv (q_build (pvs:=[(_,_),(_,_),(_,_)]) [_,_,_,_] Tryz.z146.h Tryz.p146.h ⟨⟨rfl,rfl⟩,⟨rfl,rfl⟩,⟨rfl,rfl⟩,trivial⟩ rfl) ?_;refine Zp (Zs ef ef (cs':=[_,_,_,_]) ef ?_);refine ZY 3 ?_;refine S.ent (show Ent _ (own SV.nil 3 1 (ints ((L.take 0).map (·.1)))::_) from Ent.ownNil 3 1) ?_;refine ZY 5 ?_;refine Zl (fun m ρ' Γ'=>∃(j:Nat) (u2:SV),m+j=kn∧ρ'=[(3,.pointer (some ⟨b3,0,none⟩)),(4,.pointer (some ⟨b4,0,none⟩)),(5,.pointer (some ⟨b5,0,none⟩)),(16,s.v),(17,.int .i64 s.n),(18,.int .i64 i),(57,lu.v),(58,.int .i64 lu.n),(59,.int .i64 j)]∧Γ'=blk b5 146 #[.int .i64 ck.2,.int .i64 i,u2.v,.bool true]::own u2 3 1 (ints ((L.take j).map (·.1)))::own lu 232 2 (L.flatMap ceC)::blk b3 139 #[.int .i64 kn,.int .i64 len]::blk b4 146 #[.int .i64 0,.int .i64 0,.slice none 0 0,.bool false]::R::Γ) (m:=_) (⟨0,SV.nil,rfl,rfl,rfl⟩) ?_;rintro m2 ρ' Γ' ⟨j,u2,hmj,rfl,rfl⟩;refine S.ownLen u2 fun hl2 _ _=>?_;rw[List.length_map,List.length_map,List.length_take,Nat.mul_one]at hl2;refine ZY 5 ?_
      refine Zj ef (fun h4=>?_) (fun h4=>?_)
      ·obtain⟨c,hc2⟩:=getE (l:=L) (i:=j) (by omega);refine ZY 5 ?_;refine Zv (Zx (j) ef ((hb' (by omega))) ef (by omega)) ?_;refine Zv (q_loadOwS (lu) (j*2) [_,_] Eo.h rfl (hb' (by omega)) (by first | rfl | exact Nat.add_assoc _ _ _ | omega) rfl (flat_seg (enc:=ceC) (sz:=2) ceC_len hc2)) ?_;refine Zp (S.alloc Tryz.z232.h rfl ?_);intro b11;refine Zp (Zs ef ef (cs':=[_,_]) ef ?_);refine ZY 6 ?_;refine Zp (S.buildSlice (pvs:=[(_,_)]) [_] Tryz.underlying66 Tryz.inf3.h rfl rfl ⟨⟨rfl,rfl⟩,trivial⟩ rfl rfl ?_);intro b67;refine Zp (S.appendOw (s:=u2) (1) ([.int .i64 c.1]) Tryz.underlying66 Tryz.inf3.h rfl rfl rfl (blk_slAt (b:=b67) rfl (by unfold maxLen;omega)) (by first | rfl | exact allOne_bcells _) (⟨by omega,by omega⟩) rfl ?_);intro u3 hu3;rw[show ints ((L.take j).map (·.1))++[Value.int .i64 c.1]=ints ((L.take (j+1)).map (·.1)) by rw[take_snoc _ _ _ _ hc2];simp[ints]];refine ZY 4 ?_;refine Zv (Za ef ef) ?_;refine ZY 2 ?_;exact ZX (m2-1) (⟨j+1,u3,by omega,rfl,rfl⟩) (by omega)
      ·have hLj:L.take j=L:=List.take_of_length_le (by omega);rw[hLj];refine Zy ?_;first | exact S.meet ⟨u,x,hsucc.symm,rfl,rfl⟩ ⟨rfl,rfl,rfl,rfl,rfl,rfl,trivial⟩ Sub.ent | exact S.meet ⟨u2,⟨ck.2,i,L.map (·.1),true⟩,hsucc.symm,rfl,rfl⟩ ⟨rfl,rfl,rfl,rfl,rfl,rfl,trivial⟩ Sub.ent
   ·rintro ρ' Γ' ⟨u9,x9,hx9,rfl,rfl⟩;refine Zy ?_;refine Zv (Za ef ef) ?_;refine ZY 2 ?_;exact ZX (m-1) (⟨i+1,u9,x9,by omega,hx9,rfl,rfl⟩) (by omega)
  ·obtain rfl:i=rs.length:=by omega
   have hxl:x.nodes.length≤1000:=by rw[hx];exact acc_len (fun row hr=>by obtain⟨r,h1,rfl⟩:=List.mem_map.1 hr;exact hrl r h1)
   have hfin:=firstR_acc (D:=dat rs) (k:=kn) (by omega);rw[List.length_map,←hx]at hfin;refine ZY 5 ?_;refine Zp (Zc1 Ze (SortI_S u x.nodes (by omega)) ?_);rintro v Θ rfl;refine ZY 4 ?_;refine Zp (Zs ef ef (cs':=[_,_,_,_]) ef ?_);refine ZY 2 ?_;exact Zf ef Zq (⟨u,by rw[hfin];rfl,by rw[hfin]⟩)
end PL
end Go.Proofs.YtdackcibfkkniaaGreatDoor
