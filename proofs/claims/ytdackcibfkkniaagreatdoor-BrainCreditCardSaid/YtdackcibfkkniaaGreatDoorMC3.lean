/- Texts put together. -/
import Derived.Sort.AssemblyPlain
import Derived.Sort.LotD1
import Derived.Test.YtdackcibfkkniaaGreatDoorMC2
set_option maxRecDepth 20000
set_option synthInstance.maxSize 9999
set_option synthInstance.maxHeartbeats 400000
namespace Go.Proofs.YtdackcibfkkniaaGreatDoor
open Go.RowKit
namespace BN
structure Nt where
 kind:Nat
 node:Nat:=0
 Q5r:Nat:=0
 Zax:Nat:=0
 tick:Nat:=0
 gen:Nat:=0
 Qm:Nat:=0
 ver:Nat:=0
 Qt:Nat:=0
 Qb:Nat:=0
 W7:Nat:=0
 Un:Nat:=0
 deriving DecidableEq
instance:Inhabited Nt:=⟨⟨0,0,0,0,0,0,0,0,0,0,0,0⟩⟩
abbrev Od:=Nat×Nt
structure Sv where
 ver:Nat
 Qb:Nat
 have_:List Nat
 told:Bool
 bs:List (List Int)
structure Im where
 Qm:Nat
 ver:Nat
 Qb:Nat
 bs:List (List Int)
instance:Inhabited Im:=⟨⟨0,0,0,[]⟩⟩
structure Bj where
 id:Nat
 tier:Nat
 k:Nat
 w:Nat
 state:Nat
 Qb:Nat
 at_:List Nat:=[]
 Y4:Option (List Nat):=none
 work:Nat
 ver:Nat
 Yt:Option Sv:=none
 Vo:Bool:=false
 F1:Nat:=0
 Qi:Option (List Nat):=none
 again:Bool:=false
 done:Bool:=false
 ran:Option (List (Nat×Nat×Nat)):=none
structure Br where
 nodes:Nat
 rows:Nat
 Ks:Nat
 Xe:Nat
 hold:Nat
 now:Nat
 up:List Nat
 js:List Bj
 m:Mx
 Qa:List Od
 Qe:List Im
 done:List Nat
 gen:Nat
 row:Int
 members:List Nat
 fin:Nat
 stops:Option (List Nat)
 Qo:Bool
def Qg(js:List Bj)(id:Nat):Option Bj:=js.find? fun x=>decide (x.id=id)
def Yo(js:List Bj)(x:Bj):List Bj:=js.map fun y=>if y.id=x.id then x else y
def rmJ(js:List Bj)(id:Nat):List Bj:=js.filter fun x=>decide (x.id≠id)
def Kl(x:Bj):List Bj→List Bj
 | []=>[x]
 | y::l=>if x.id<y.id then x::y::l else y::Kl x l
abbrev Br.set(b:Br)(x:Bj):Br:={b with js:=Yo b.js x}
abbrev u32(n:Nat):Nat:=n % 4294967296
def Z6(b:Br)(x:Bj):Br:=
 if x.Qi=some [] then
  if x.again then {b with m:=(Z0 b.m x.id).2,js:=Yo b.js {id:=x.id,tier:=x.tier,k:=x.k,w:=x.w,state:=0,Qb:=x.Qb,work:=x.Qb,ver:=x.ver}}
  else {b with m:=(Z0 b.m x.id).2,js:=rmJ b.js x.id}
 else b.set x
def Xp(id:Nat)(n:Nat):Od:=(n,{kind:=10,Qm:=id})
abbrev Vf(x:Bj)(a:Bool)(ds:List Nat):Bj:={x with again:=a&&!x.done,Yt:=none,work:=x.Qb,Qi:=some ds,state:=3}
def V7(b:Br)(x:Bj):List Nat:=x.at_.filter fun n=>decide (n∈b.up)
def Y9(b:Br)(x:Bj)(again:Bool):Br:=
 match x.Qi with
 | some d=>Z6 b (Vf x again d)
 | none=>Z6 {b with Qa:=b.Qa++(V7 b x).map (Xp x.id)} (Vf x again (V7 b x))
def Q0(b:Br)(x:Bj):Br:=
 if x.Qb<x.w∨x.done=true then b.set x else Y9 {b with done:=b.done++[x.id]} {x with done:=true} false
def Fm(b:Br)(j:Bj):Bool:=decide (j.id≠0)&&decide (1≤j.k)&&decide (j.k≤b.nodes)&&decide (1≤j.w)&&decide (j.w≤10000)&&decide (j.Qb≤j.w)&&decide (j.tier≤3)
abbrev U9(id tier k w Qb ver:Nat):Bj:={id:=id,tier:=tier,k:=k,w:=w,state:=0,Qb:=Qb,work:=Qb,ver:=ver}
def Fx(b:Br)(x:Bj):Int×Br:=
 if Fm b x=false then (1,b) else if (Qg b.js x.id).isSome then (7,b) else (0,Q0 {b with js:=Kl x b.js} x)
def Yr(b:Br)(id:Nat):Int×Br:=
 match Qg b.js id with
 | none=>(6,b)
 | some x=>match x.Qi with
  | none=>(0,Y9 b x false)
  | some _=>if x.again then (0,b.set {x with again:=false}) else (6,b)
def W5(b:Br)(n:Int)(up:Bool):Int:=if n<0∨(b.nodes:Int)≤n then 1 else if V9 b.m n≠up then 14 else 0
def Ke(b:Br)(n:Int):Int×Br:=if W5 b n false≠0 then (W5 b n false,b) else ((upR b.m n true).1,{b with up:=Yj b.up n.toNat,m:=(upR b.m n true).2})
def Vu(x:Bj)(n:Nat):Od:=(n,{kind:=8,Qm:=x.id,ver:=x.ver,Qb:=x.work})
def Yy(b:Br)(x:Bj):Br:=
 if x.work=x.Qb∨x.Yt.isSome∨x.Qi.isSome∨x.state≠2 then b.set x
 else
  let y:={x with ver:=u32 (x.ver+1),Yt:=some ⟨u32 (x.ver+1),x.work,[],false,x.at_.map fun _=>[]⟩}
  {b with js:=Yo b.js y,Qa:=b.Qa++x.at_.map (Vu y)}
def Xr:List (Nat×Nat)→Nat×Nat→Option (Nat×Nat)
 | [],a=>some a
 | x::l,a=>if x.2<x.1 then none else Xr l (max a.1 x.1,min a.2 x.2)
def Xs(l:List (Nat×Nat)):Nat:=
 if l=[] then 0 else match Xr l (0,4294967295) with
  | none=>0
  | some (f,t)=>if t<f then 0 else t-f+1
def Zz(b:Br)(x:Bj):Br:=
 match x.ran with
 | none=>b.set x
 | some r=>if x.Qi.isSome∨r.length≠x.at_.length then b.set {x with ran:=none}
  else Yy b {x with ran:=none,work:=min (x.work+Xs (r.map (·.2))) x.w}
def each(f:Br→Bj→Br)(b:Br)(ids:List Nat):Br:=ids.foldl (fun b id=>match Qg b.js id with|none=>b|some x=>f b x) b
abbrev Br.ids(b:Br):List Nat:=b.js.map (·.id)
def Qw(b:Br)(n:Nat):Br:=
 match b.stops with
 | none=>b
 | some s=>if Vx s n≠[] then {b with stops:=some (Vx s n)} else each Zz {b with stops:=none,Qo:=false} b.ids
def Yk(n:Nat)(b:Br)(x:Bj):Br:=
 if n∈x.at_ then match x.Qi with
  | none=>Y9 b x true
  | some d=>Z6 b {x with Qi:=some (Vx d n)}
 else b
def V1(b:Br)(n:Int):Int×Br:=
 if W5 b n true≠0 then (W5 b n true,b)
 else (0,Qw (each (Yk n.toNat) {b with up:=Vx b.up n.toNat,m:=(upR b.m n false).2,Qa:=b.Qa.filter fun o=>decide (o.1≠n.toNat)} b.ids) n.toNat)
def Wz(r:List (Nat×Nat×Nat))(n:Nat)(v:Nat×Nat):List (Nat×Nat×Nat):=
 match r with
 | []=>[(n,v)]
 | y::l=>if n=y.1 then (n,v)::l else y::Wz l n v
def W4(b:Br)(n:Nat)(x:Nt):Br:=
 if decide (n∈b.stops.getD [])&&b.Qo&&decide (x.gen=b.gen) then
  Qw (match Qg b.js x.Qm with
   | none=>b
   | some y=>match y.ran with
    | none=>b
    | some r=>if 0<x.W7∧n∈y.at_ then b.set {y with ran:=some (Wz r n (x.W7,x.Un))} else b) n
 else b
def Uf(l:List Nat)(n:Nat):Option Nat:=l.findIdx? (fun y=>decide (y=n))
def Wy(b:Br)(x:Bj)(n:Nat)(t:Nt)(blob:List Int):Br:=
 match x.Yt with
 | none=>b
 | some s=>match Uf x.at_ n with
  | none=>b
  | some Qt=>if s.told=true∨t.ver≠s.ver∨t.Qt≠Qt then b
   else
    let s2:Sv:={s with bs:=s.bs.set Qt blob,have_:=Yj s.have_ n}
    if s2.have_.length=x.at_.length then {b with js:=Yo b.js {x with Yt:=some {s2 with told:=true}},Qe:=b.Qe++[⟨x.id,s2.ver,s2.Qb,s2.bs⟩]}
    else b.set {x with Yt:=some s2}
def Wt(b:Br)(x:Bj)(n:Nat)(t:Nt)(blob:List Int):Br:=
 if t.kind=4 then
  if x.state=1 then b.set {x with Y4:=some (Yj (x.Y4.getD []) n),state:=if (Yj (x.Y4.getD []) n).length=x.at_.length then 2 else 1} else b
 else if t.kind=9 then Wy b x n t blob
 else if t.kind=11 then match x.Qi with
  | none=>b
  | some d=>Z6 b {x with Qi:=some (Vx d n)}
 else b
def X6(b:Br)(n:Int)(t:Nt)(blob:List Int):Int×Br:=
 if W5 b n true≠0 then (W5 b n true,b)
 else if t.kind=7 then (0,W4 b n.toNat t)
 else match Qg b.js t.Qm with
  | none=>(0,b)
  | some x=>if n.toNat∈x.at_ then (0,Wt b x n.toNat t blob) else (0,b)
def Wa(b:Br):List Im×Br:=
 (b.Qe.filter fun i=>match Qg b.js i.Qm with
  | none=>false
  | some x=>match x.Yt with
   | none=>false
   | some s=>decide (s.ver=i.ver),{b with Qe:=[]})
def Qr(b:Br)(id ver:Nat)(ok:Bool):Int×Br:=
 match Qg b.js id with
 | none=>(6,b)
 | some x=>match x.Yt with
  | none=>(6,b)
  | some s=>if s.told=false∨s.ver≠ver then (6,b) else (0,Q0 b {x with Qb:=if ok then s.Qb else x.Qb,Yt:=none})
def Qbs(b:Br):Bool:=!b.members.any fun id=>match Qg b.js id with
 | none=>false
 | some x=>x.Qi.isNone
def F2(b:Br):Br:={b with Qo:=true,Qa:=b.Qa++((List.range b.nodes).filter fun n=>decide (n∈b.stops.getD [])).map fun n=>((n,{kind:=6,gen:=b.gen}):Od)}
def Qx(b:Br)(x:Bj):Br:=
 if x.Vo=true∧x.Qi=none∧(x.F1≤b.now∨(x.work=x.Qb∧x.Yt.isNone)) then Y9 b x true else b
def My(b:Br):List PR.It:=PR.stL ((b.js.filter fun x=>decide (x.state=0)&&x.Qi.isNone).foldl (fun h x=>(PR.Hx ⟨x.id,x.tier,0⟩ h).2) (some []))
def Xd(b:Br):List Nat:=(My b).map fun x=>x.id.toNat
def Cu(b:Br)(x:Bj):Nat:=(x.w-x.Qb)*b.rows
def Wh(b:Br)(r n:Nat):Int:=
 if V9 b.m n then match Qg b.js (atR b.m r n) with
  | none=>0
  | some x=>max 1 (Cu b x)
 else 1099511627776
def Af(b:Br):List (List Int):=(List.range b.rows).map fun r=>(List.range b.nodes).map fun n=>Wh b r n
def Fl(b:Br):List PL.Ak:=(Xd b).map fun id=>match Qg b.js id with
 | none=>⟨0,0⟩
 | some x=>⟨x.k,Cu b x⟩
def Wk(x:Bj)(ns:List Nat):List Od:=ns.mapIdx fun Qt n=>((n,{kind:=3,Qm:=x.id,ver:=x.ver,Qt:=Qt,Qb:=x.Qb}):Od)
def V3(b:Br)(x:Bj)(s:PL.St):Br:=
 if (X7 b.m x.id s.row s.nodes).1≠0 then {b with m:=(X7 b.m x.id s.row s.nodes).2}
 else {b with m:=(X7 b.m x.id s.row s.nodes).2,js:=Yo b.js {x with at_:=nats s.nodes,Y4:=some [],state:=1},Qa:=b.Qa++Wk x (nats s.nodes)}
def Yp(b:Br):List (Nat×PL.St)→Br
 | []=>b
 | (id,s)::l=>Yp (if s.ok=true∧s.at_=0 then match Qg b.js id with|none=>b|some x=>V3 b x s else b) l
def Ya(b:Br):Br:=Yp b ((Xd b).zip (PL.Fe (Af b) (Fl b)))
def Ys(t n:Nat):Nat:=min (t+n) 4294967295
def Gv(b:Br):List Cd:=(b.js.filter fun x=>decide (x.state=2) || decide (x.state=1)).map fun x=>(x.id,(x.tier:Int))
def Vv(b:Br)(x:Bj):Br:=
 {b with js:=Yo b.js {x with Vo:=true,F1:=Ys b.now b.Xe},Qa:=b.Qa++x.at_.map fun n=>((n,{kind:=12,Qm:=x.id,tick:=Ys b.now b.Xe}):Od)}
def Qs(b:Br):Br:=
 match Xd b with
 | []=>b
 | id::_=>if b.js.any (fun x=>x.Vo || x.Qi.isSome) then b else
  match Qg b.js id with
  | none=>b
  | some y=>each Vv b (Aj (Lk b.m y.tier y.k (Gv b)).1)
def Wl(b:Br)(l:List Nat):List Nat:=l.filter fun id=>match Qg b.js id with
 | none=>false
 | some x=>decide (x.state=2)&&x.Qi.isNone&&decide (x.work<x.w)
def W6(b:Br)(x:Bj):Br:=
 {b with js:=Yo b.js {x with ran:=some []},stops:=some (x.at_.foldl Yj (b.stops.getD [])),Qa:=b.Qa++x.at_.map fun n=>((n,{kind:=5,gen:=b.gen,Qm:=x.id}):Od)}
def U0(l:List Nat):List Nat:=l.mergeSort fun a b=>decide (a≤b)
def Qfi(b:Br)(l:List Nat):Br:=each W6 {b with gen:=u32 (b.gen+1),members:=U0 l,fin:=Ys b.now b.Ks,stops:=some []} (U0 l)
def Y1(b:Br)(row:Int):Nat→Br
 | 0=>b
 | i+1=>if (Yh b.m row).2=false then b
  else if (Wl b (Z9 b.m (Yh b.m row).1)).length > 0 then Qfi {b with row:=(Yh b.m row).1} (Wl b (Z9 b.m (Yh b.m row).1++Yq b.m (Yh b.m row).1))
  else Y1 b (Yh b.m row).1 i
def Ga(b:Br):Br:=
 let b1:=each Qx b b.ids
 let b2:=Ya b1
 let b3:=Qs b2
 let b4:={b3 with m:=(Uu b3.m).1}
 let b5:=each Yy b4 b4.ids
 Y1 b5 b5.row b5.rows
def Y3(b:Br)(now:Nat):Int×Br:=
 if now≤b.now then (12,b)
 else if now≤b.hold then (0,{b with now:=now})
 else if b.stops.isSome then
  if b.Qo=false∧(b.fin≤now∨Qbs b=true) then (0,F2 {b with now:=now}) else (0,{b with now:=now})
 else (0,Ga {b with now:=now})
def Sb(nodes rows Ks Xe hold:Nat):Br:={nodes:=nodes,rows:=rows,Ks:=Ks,Xe:=Xe,hold:=hold,now:=0,up:=[],js:=[],m:={mx0 rows nodes with up:=0#16},Qa:=[],Qe:=[],done:=[],gen:=0,row:=-1,members:=[],fin:=0,stops:=none,Qo:=false}
structure Rk where
 place:Nat
 run:Bool:=false
 gen:Nat:=0
 W7:Nat:=0
 Un:Nat:=0
instance:Inhabited Rk:=⟨⟨0,false,0,0,0⟩⟩
abbrev Rs:=List (Nat×Rk)
structure Nd where
 up:Bool
 rk:Rs
 Yi:List Nt
 out:List (Nt×List Int)
 Qf:Bool
instance:Inhabited Nd:=⟨⟨true,[],[],[],false⟩⟩
def Yg{α:Type}(k:Nat):List (Nat×α)→Option α
 | []=>none
 | x::l=>if x.1=k then some x.2 else Yg k l
def Xl{α:Type}(k:Nat)(v:α):List (Nat×α)→List (Nat×α)
 | []=>[(k,v)]
 | x::l=>if x.1=k then (k,v)::l else x::Xl k v l
def Ha{α:Type}(k:Nat):List (Nat×α)→List (Nat×α)
 | []=>[]
 | x::l=>if x.1=k then l else x::Ha k l
def Yn(k:Nat)(l:List (Nat×Nat)):Nat:=(Yg k l).getD 0
def Qz(l:Rs):Nat:=match l.find? (·.2.run) with
 | none=>0
 | some x=>x.1
def amB(l:Rs):Bool:=decide ((l.filter (·.2.run)).length≤1)
def Q8(nd:Nd)(x:Nt):Nd:=
 if x.kind=3 then {nd with Qf:=nd.Qf || (Yg x.Qm nd.rk).isSome,rk:=Xl x.Qm {place:=x.Qt} nd.rk,out:=nd.out++[({kind:=4,Qm:=x.Qm},[])]}
 else if x.kind=5 then match Yg x.Qm nd.rk with
  | none=>{nd with Qf:=true}
  | some r=>{nd with Qf:=nd.Qf || decide (Qz nd.rk≠0),rk:=Xl x.Qm {r with run:=true,gen:=x.gen,W7:=0,Un:=0} nd.rk}
 else if x.kind=6 then
  if Qz nd.rk≠0 then match Yg (Qz nd.rk) nd.rk with
   | none=>nd
   | some r=>{nd with rk:=Xl (Qz nd.rk) {r with run:=false} nd.rk,out:=nd.out++[({kind:=7,gen:=x.gen,Qm:=Qz nd.rk,W7:=r.W7,Un:=r.Un},[])]}
  else {nd with out:=nd.out++[({kind:=7,gen:=x.gen},[])]}
 else if x.kind=8 then match Yg x.Qm nd.rk with
  | none=>{nd with Qf:=true}
  | some r=>{nd with Qf:=nd.Qf || r.run,out:=nd.out++[({kind:=9,Qm:=x.Qm,ver:=x.ver,Qt:=r.place},[(r.place:Int),((x.Qb % 256:Nat):Int)])]}
 else if x.kind=10 then {nd with rk:=Ha x.Qm nd.rk,out:=nd.out++[({kind:=11,Qm:=x.Qm},[])]}
 else nd
def Q2(now:Nat)(nd:Nd):Nd:=
 if Qz nd.rk≠0 then match Yg (Qz nd.rk) nd.rk with
  | none=>nd
  | some r=>{nd with rk:=Xl (Qz nd.rk) {r with Un:=now,W7:=if r.W7=0 then now else r.W7} nd.rk}
 else nd
structure Jo where
 id:Nat
 tier:Nat
 k:Nat
 w:Nat
 deriving DecidableEq
structure Sm where
 b:Br
 cn:Nat
 cr:Nat
 cq:Nat
 cg:Nat
 nd:List Nd
 now:Nat
 next:Nat
 ran:List (Nat×Nat)
 Ym:List Jo
 gone:List Nat
 done:List Nat
 Qe:List Im
 fu:Nat
 ok:Bool
def Uv(js:List Jo)(id:Nat):Option Jo:=js.find? fun j=>decide (j.id=id)
def Vh(l:List Nd):List Nd:=match l with
 | []=>[]
 | x::l=>{x with Qf:=true}::l
def B4(l:List Nd)(o:Od):List Nd:=match l[o.1]? with
 | none=>Vh l
 | some x=>if x.up then l.set o.1 {x with Yi:=x.Yi++[o.2]} else Vh l
def Vz(l:List Nd)(os:List Od):List Nd:=os.foldl B4 l
def Jg(p:List Nd×List Nat)(id:Nat):List Nd×List Nat:=(if id∈p.2 then Vh p.1 else p.1,Yj p.2 id)
def Vd(s:Sm):Sm:=
 let l:=Vz s.nd s.b.Qa
 let p:=s.b.done.foldl Jg (l,s.done)
 {s with b:={s.b with Qa:=[],Qe:=[],done:=[]},nd:=p.1,done:=p.2,Qe:=s.Qe++(Wa s.b).1,fu:=s.fu+s.b.Qa.length+s.b.Qe.length+s.b.done.length}
def Kd(l:List Nd)(id:Nat):Nat:=(l.filter fun n=>decide (Qz n.rk=id)).length
def A5(l:List Nd)(j:Jo):Bool:=decide (j.id≠0)&&decide (Kd l j.id=j.k)&&decide (0<Kd l j.id)
def Cn(s:Sm)(l:List Nd):List (Nat×Nat):=s.Ym.foldl (fun r j=>if A5 l j then Xl j.id (Yn j.id r+1) r else r) s.ran
def Qj6(l:List Nd):Bool:=l.all fun n=>amB n.rk
def tkB(s:Sm):Bool:=decide (s.nd.length=s.cn)&&decide (1≤s.cn)&&(s.nd.all fun n=>decide (n.Yi.length≤s.fu)&&decide (n.out.length≤s.fu))&&decide (s.Qe.length≤s.fu)&&decide (s.fu≤100000000000)&&decide (s.b.Qa.length≤900000)&&decide (s.b.Qe.length≤900000)&&decide (s.b.done.length≤900000)
def wsB(b:Br):Bool:=b.js.all fun x=>decide (x.state≠0) || x.Yt.isNone
def stB(s:Sm):Bool:=tkB s&&decide (s.now+1≤4294967295)&&Qj6 s.nd&&Qj6 (s.nd.map (Q2 (s.now+1)))&&wsB s.b&&decide (s.b.Qa.length≤700000)&&decide (s.cn≤16)&&(s.ran.all fun x=>decide (x.2≤s.now))
def ntB(x:Nt×List Int):Bool:=decide (x.1.Qt≤255)&&decide (x.1.W7≤4294967295)&&decide (x.1.Un≤4294967295)&&decide (x.2.length≤1000000)
def Ku(s:Sm):Sm:=
 let l:=s.nd.map (Q2 (s.now+1))
 let t:=Y3 s.b (s.now+1)
 Vd {s with now:=s.now+1,ran:=Cn s l,b:=t.2,nd:=if t.1≠0 then Vh l else l,ok:=s.ok&&stB s}
abbrev Lf(s:Sm)(i:Nat)(n:Nd)(x:Nt×List Int)(l:List (Nt×List Int)):Sm:={s with nd:=s.nd.set i {n with out:=l},b:=(X6 s.b i x.1 x.2).2}
abbrev Q86(s:Sm)(i:Nat)(n:Nd)(x:Nt)(l:List Nt):Sm:={s with nd:=s.nd.set i (Q8 {n with Yi:=l} x),fu:=s.fu+1}
def Zt(s:Sm)(i:Nat)(back:Bool):Bool×Sm:=match s.nd[i]? with
 | none=>(false,s)
 | some n=>if n.up=false then (false,s)
  else if back then match n.out with
   | []=>(false,s)
   | x::l=>(true,Vd {Lf s i n x l with ok:=s.ok&&ntB x&&tkB s&&decide (s.b.Qa.length≤800000)&&decide (s.b.Qe.length≤800000)&&tkB (Lf s i n x l)})
  else match n.Yi with
   | []=>(false,s)
   | x::l=>(true,{Q86 s i n x l with ok:=s.ok&&amB n.rk&&tkB s})
abbrev Qfu(s:Sm)(x:Im)(l:List Im)(ok:Bool):Sm:={s with Qe:=l,b:=(Qr s.b x.Qm x.ver ok).2}
def Z5(s:Sm)(ok:Bool):Bool×Sm:=match s.Qe with
 | []=>(false,s)
 | x::l=>(true,Vd {Qfu s x l ok with ok:=s.ok&&tkB s&&decide (s.b.Qa.length≤800000)&&decide (s.b.done.length≤800000)&&tkB (Qfu s x l ok)})
def roundUp(s:Sm)(some_:Bool):Nat→Bool×Sm
 | 0=>(some_,s)
 | i+1=>
  let p:=roundUp s some_ i
  let q:=Zt p.2 i false
  let r:=Zt q.2 i true
  (r.1 || q.1 || p.1,r.2)
def Ju(s:Sm):Nat→Sm
 | 0=>s
 | k+1=>
  let p:=Z5 s true
  let q:=roundUp p.2 p.1 p.2.nd.length
  if q.1 then Ju q.2 k else q.2
def R4(s:Sm):Sm:=Ju (Ku s) 3000
structure Ac where
 Yu:Nat
 n:Nat
 tier:Nat
 k:Nat
 w:Nat
 back:Bool
 fail:Bool
def Qm8(s:Sm)(j:Jo):Bool:=Fm s.b (U9 j.id j.tier j.k j.w 0 0)&&decide (s.b.js.length≤999)&&decide (s.b.Qa.length≤900000)&&decide (s.b.done.length≤900000)&&(s.Ym.all fun x=>decide (x.id≠j.id))&&decide (s.next≤4294967294)
def Ho(s:Sm)(j:Jo):Sm:=if (Fx s.b (U9 j.id j.tier j.k j.w 0 0)).1=0 then {s with b:=(Fx s.b (U9 j.id j.tier j.k j.w 0 0)).2,Ym:=s.Ym++[j],next:=s.next+1} else {s with b:=(Fx s.b (U9 j.id j.tier j.k j.w 0 0)).2}
def Qh5(s:Sm)(j:Jo):Sm:=Vd {Ho s j with ok:=s.ok&&Qm8 s j&&tkB (Ho s j)}
def Qgy(s:Sm)(id:Nat):Sm:={s with b:=(Yr s.b id).2,gone:=if (Yr s.b id).1=0 then Yj s.gone id else s.gone}
def Qh4(s:Sm)(id:Nat):Sm:=Vd {Qgy s id with ok:=s.ok&&decide (s.b.Qa.length≤900000)&&tkB (Qgy s id)}
abbrev Qd3(s:Sm)(i:Nat)(n:Nd):Sm:={s with nd:=s.nd.set i {up:=false,rk:=[],Yi:=[],out:=[],Qf:=n.Qf},b:=(V1 s.b i).2}
def Ck(s:Sm)(i:Nat):Sm:=match s.nd[i]? with
 | none=>s
 | some n=>if n.up then Vd {Qd3 s i n with ok:=s.ok&&decide (s.b.Qa.length≤800000)&&tkB (Qd3 s i n)} else s
abbrev up1(s:Sm)(i:Nat)(n:Nd):Sm:={s with nd:=s.nd.set i {n with up:=true},b:=(Ke s.b i).2}
def Qh3(s:Sm)(i:Nat):Sm:=match s.nd[i]? with
 | none=>s
 | some n=>if n.up then s else Vd {up1 s i n with ok:=s.ok&&tkB (up1 s i n)}
def Vw(s:Sm)(a:Ac):Sm:=
 let i:=a.n % s.nd.length
 if a.Yu=0∨a.Yu=1 then Ku s
 else if a.Yu=2 then
  if s.Ym.length<20 then Qh5 s ⟨s.next,a.tier % 4,1+a.k % s.cn,1+a.w % 20⟩
  else Vd {s with ok:=s.ok&&tkB s}
 else if a.Yu=3 then Qh4 s (1+a.n % max s.next 1)
 else if a.Yu=4 then Ck s i
 else if a.Yu=5 then Qh3 s i
 else if a.Yu=6∨a.Yu=7∨a.Yu=8∨a.Yu=9 then (Zt s i a.back).2
 else if a.Yu=10 then (Z5 s (!a.fail)).2
 else if a.Yu=11 then R4 s
 else s
def Ut(nodes rows Ks Xe:Nat):Sm:=
 {b:=(List.range nodes).foldl (fun b (i:Nat)=>(Ke b i).2) (Sb nodes rows Ks Xe 0),cn:=nodes,cr:=rows,cq:=Ks,cg:=Xe,nd:=List.replicate nodes ⟨true,[],[],[],false⟩,now:=0,next:=1,ran:=[],Ym:=[],gone:=[],done:=[],Qe:=[],fu:=0,ok:=true}
end BN
theorem Jw{α:Type}{z:Int}{v:α}:∀ {l:List (Int×α)},(l.map (·.1)).Nodup→(z,v)∈l→Q1 z l=some v
 | [],_,h=>by cases h
 | x::l,hn,h=>by
  rw[List.map_cons,List.nodup_cons]at hn;unfold Q1
  rcases List.mem_cons.1 h with rfl|h
  ·rw[if_pos rfl]
  ·rw[if_neg (fun e=>hn.1 (List.mem_map.2 ⟨_,h,e⟩)),Jw hn.2 h]
theorem Qm6{α:Type}{l l':List (Int×α)}(h:l.Perm l')(hn:(l.map (·.1)).Nodup)(z:Int):Q1 z l=Q1 z l':=by
 have hn':(l'.map (·.1)).Nodup:=(h.map _).nodup_iff.1 hn;cases e:Q1 z l' with
 | some v=>
  have hm:(z,v)∈l':=by
   have:=U7 z l' 0;rw[e]at this;cases hf:V6 z l' 0 with
   | none=>rw[hf]at this;cases this
   | some p=>
    obtain⟨j,u⟩:=p;rw[hf]at this;cases this;obtain⟨k,_,h2,_⟩:=Vn hf;exact List.mem_of_getElem? h2
  exact Jw hn (h.mem_iff.2 hm)
 | none=>
  cases e2:Q1 z l with
  | none=>rfl
  | some v=>
   have hm:(z,v)∈l:=by
    have:=U7 z l 0;rw[e2]at this;cases hf:V6 z l 0 with
    | none=>rw[hf]at this;cases this
    | some p=>
     obtain⟨j,u⟩:=p;rw[hf]at this;cases this;obtain⟨k,_,h2,_⟩:=Vn hf;exact List.mem_of_getElem? h2
   rw[Jw hn' (h.mem_iff.1 hm)]at e;cases e
theorem Qsm{α:Type}{z:Int}{v:α}{l:List (Int×α)}(h:Q1 z l=none):Yd z v l=l++[(z,v)]:=by
 have:=U7 z l 0;rw[h]at this;cases hf:V6 z l 0 with
 | none=>exact(Jh hf).1 v
 | some p=>rw[hf]at this;cases this
theorem Dc{α:Type}{l:List α}{k:Nat}{a:α}(h:l[k]?=some a):l.Perm (a::l.eraseIdx k):=by
 obtain⟨hk,e⟩:=List.getElem?_eq_some_iff.1 h
 have hsp:l=l.take k++a::l.drop (k+1):=by
  conv=>lhs;rw[←List.take_append_drop k l,List.drop_eq_getElem_cons hk,e]
 rw[List.eraseIdx_eq_take_drop_succ]
 conv=>lhs;rw[hsp]
 exact List.perm_middle
theorem Qm7{α:Type}{z:Int}{v:α}{l m:List (Int×α)}(h:l.Perm ((z,v)::m))(hn:(l.map (·.1)).Nodup):(Ko z l).Perm m:=by
 have hg:Q1 z l=some v:=Jw hn (h.mem_iff.2 (List.mem_cons_self ..));have:=U7 z l 0;rw[hg]at this;cases hf:V6 z l 0 with
 | none=>rw[hf]at this;cases this
 | some p=>
  obtain⟨j,u⟩:=p;rw[hf]at this;have hu:v=u:=(Option.some.inj this).symm;subst hu;obtain⟨k,_,h2,_,h4⟩:=Vn hf;rw[h4];exact List.Perm.cons_inv ((Dc h2).symm.trans h)
namespace BN
abbrev Kp(js:List Bj):Prop:=js.Pairwise (fun a b=>a.id<b.id)
theorem Qd{js:List Bj}{id:Nat}{x:Bj}(h:Qg js id=some x):x∈js∧x.id=id:=by
 have h9:=List.find?_some h;exact⟨List.mem_of_find?_eq_some h,of_decide_eq_true h9⟩
theorem X3{js:List Bj}(hs:Kp js){x:Bj}(h:x∈js):Qg js x.id=some x:=by
 unfold Qg;induction js with
 | nil=>cases h
 | cons y l ih=>
  obtain⟨h1,h2⟩:=List.pairwise_cons.1 hs;rw[List.find?_cons]
  rcases List.mem_cons.1 h with rfl|h
  ·simp
  ·rw[decide_eq_false (show ¬y.id=x.id by have:=h1 x h;omega)];exact ih h2 h
theorem V4{js:List Bj}{id:Nat}(h:Qg js id=none):∀x∈js,x.id≠id:=fun x hx e=>by
 have:=List.find?_eq_none.1 h x hx;simp[e]at this
theorem M3(js:List Bj)(x:Bj):(Yo js x).map (·.id)=js.map (·.id):=by
 rw[Yo,List.map_map];refine List.map_congr_left fun y _=>?_;show (if y.id=x.id then x else y).id=y.id
 split
 ·rename_i h;exact h.symm
 ·rfl
theorem Q7i{js js':List Bj}(h:Kp js)(e:js'.map (·.id)=js.map (·.id)):Kp js':=by
 have h2:=List.pairwise_map.2 h;rw[←e]at h2;exact List.pairwise_map.1 h2
theorem Q0h{js:List Bj}(h:Kp js)(x:Bj):Kp (Yo js x):=Q7i h (M3 js x)
theorem Jk(js:List Bj)(x:Bj):(Yo js x).length=js.length:=List.length_map ..
theorem El(js:List Bj)(x:Bj)(id:Nat):Qg (Yo js x) id=if id=x.id then (Qg js id).map (fun _=>x) else Qg js id:=by
 unfold Qg Yo;induction js with
 | nil=>split <;> rfl
 | cons y l ih=>
  rw[List.map_cons,List.find?_cons,List.find?_cons]
  by_cases e:y.id=x.id
  ·by_cases e2:id=x.id
   ·rw[if_pos e2]at ih;rw[if_pos e,if_pos e2];have a1:decide (x.id=id)=true:=decide_eq_true e2.symm;have a2:decide (y.id=id)=true:=decide_eq_true (e.trans e2.symm);simp only[a1,a2];rfl
   ·rw[if_neg e2]at ih;rw[if_pos e,if_neg e2];have a1:decide (x.id=id)=false:=decide_eq_false fun h=>e2 h.symm;have a2:decide (y.id=id)=false:=decide_eq_false fun h=>e2 (h.symm.trans e);simp only[a1,a2];exact ih
  ·by_cases e2:id=x.id
   ·rw[if_pos e2]at ih;rw[if_neg e,if_pos e2];have a2:decide (y.id=id)=false:=decide_eq_false fun h=>e (h.trans e2);simp only[a2];exact ih
   ·rw[if_neg e2]at ih;rw[if_neg e,if_neg e2];cases decide (y.id=id) with
    | true=>rfl
    | false=>exact ih
theorem Qac(js:List Bj){x y:Bj}(h:x.id=y.id):Yo (Yo js x) y=Yo js y:=by
 unfold Yo;rw[List.map_map];refine List.map_congr_left fun z _=>?_;show (if (if z.id=x.id then x else z).id=y.id then y else if z.id=x.id then x else z)=_
 by_cases e:z.id=x.id
 ·rw[if_pos e,if_pos h,if_pos (e.trans h)]
 ·rw[if_neg e]
theorem Q0p(js:List Bj)(x:Bj):rmJ (Yo js x) x.id=rmJ js x.id:=by
 unfold rmJ Yo;induction js with
 | nil=>rfl
 | cons y l ih=>
  rw[List.map_cons,List.filter_cons,List.filter_cons,ih]
  by_cases e:y.id=x.id
  ·rw[if_pos e];simp[e]
  ·rw[if_neg e]
theorem Bt{js:List Bj}(hs:Kp js){id:Nat}{x:Bj}(h:Qg js id=some x):∃i,js[i]?=some x∧(∀y:Bj,y.id=id→Yo js y=js.set i y)∧rmJ js id=js.eraseIdx i:=by
 obtain⟨h1,h2⟩:=Qd h;obtain⟨i,hi,e⟩:=List.getElem_of_mem h1
 refine⟨i,by rw[List.getElem?_eq_getElem hi,e],fun y hy=>?_,?_⟩
 ·refine List.ext_getElem? fun k=>?_;rw[Yo,List.getElem?_map,List.getElem?_set]
  by_cases ek:i=k
  ·subst ek;rw[if_pos rfl,if_pos hi,List.getElem?_eq_getElem hi,e,Option.map_some,if_pos (h2.trans hy.symm)]
  ·rw[if_neg ek];cases hk:js[k]? with
   | none=>rfl
   | some z=>
    rw[Option.map_some,if_neg];intro e3;obtain⟨hk1,hk2⟩:=List.getElem?_eq_some_iff.1 hk
    have Uk:js[k].id≠js[i].id:=by
     rcases Nat.lt_or_gt_of_ne ek with h|h
     ·have:=List.pairwise_iff_getElem.1 hs i k hi hk1 h;omega
     ·have:=List.pairwise_iff_getElem.1 hs k i hk1 hi h;omega
    rw[hk2,e]at Uk;exact Uk (e3.trans (hy.trans h2.symm))
 ·have hsp:js=js.take i++x::js.drop (i+1):=by
   conv=>lhs;rw[←List.take_append_drop i js,List.drop_eq_getElem_cons hi,e]
  have Jz:(js.take i++x::js.drop (i+1)).Pairwise (fun a b:Bj=>a.id<b.id):=hsp ▸ hs;rw[List.pairwise_append]at Jz;obtain⟨_,q2,q3⟩:=Jz;have q4:=(List.pairwise_cons.1 q2).1;rw[List.eraseIdx_eq_take_drop_succ,rmJ]
  conv=>lhs;rw[hsp]
  rw[List.filter_append,List.filter_cons,if_neg (by simp[h2])]
  congr 1
  ·refine List.filter_eq_self.2 fun z hz=>decide_eq_true ?_;have:=q3 z hz x (List.mem_cons_self ..);omega
  ·refine List.filter_eq_self.2 fun z hz=>decide_eq_true ?_;have:=q4 z hz;omega
theorem Qqg{js:List Bj}(hs:Kp js){x:Bj}(h:Qg js x.id=some x):Yo js x=js:=by
 obtain⟨i,h1,h2,_⟩:=Bt hs h;rw[h2 x rfl];refine List.ext_getElem? fun k=>?_
 by_cases e:i=k
 ·subst e;rw[List.getElem?_set_self (List.getElem?_eq_some_iff.1 h1).1,h1]
 ·rw[List.getElem?_set_ne e]
theorem Q6g{js:List Bj}(h:Kp js)(id:Nat):Kp (rmJ js id):=h.filter _
theorem V0{x y:Bj}:∀ {js:List Bj},y∈Kl x js↔y=x∨y∈js
 | []=>by simp[Kl]
 | z::l=>by
  unfold Kl
  split
  ·simp
  ·rw[List.mem_cons,V0,List.mem_cons]
   constructor
   ·rintro (h|h|h)
    ·exact .inr (.inl h)
    ·exact .inl h
    ·exact .inr (.inr h)
   ·rintro (h|h|h)
    ·exact .inr (.inl h)
    ·exact .inl h
    ·exact .inr (.inr h)
theorem Po(x:Bj):∀js:List Bj,(Kl x js).Perm (x::js)
 | []=>.refl _
 | y::l=>by
  unfold Kl
  split
  ·exact .refl _
  ·exact((Po x l).cons y).trans (.swap x y l)
theorem La{x:Bj}:∀ {js:List Bj},Kp js→(∀y∈js,y.id≠x.id)→Kp (Kl x js)
 | [],_,_=>List.pairwise_singleton _ _
 | y::l,h,hn=>by
  obtain⟨h1,h2⟩:=List.pairwise_cons.1 h;unfold Kl
  split
  ·rename_i Wq;refine List.pairwise_cons.2 ⟨fun z hz=>?_,h⟩
   rcases List.mem_cons.1 hz with rfl|hz
   ·exact Wq
   ·have:=h1 z hz;omega
  ·rename_i Wq;refine List.pairwise_cons.2 ⟨fun z hz=>?_,La h2 fun z hz=>hn z (List.mem_cons_of_mem _ hz)⟩
   rcases V0.1 hz with rfl|hz
   ·have:=hn y (List.mem_cons_self ..);omega
   ·exact h1 z hz
abbrev jE(ps:Nat→Nat)(x:Bj):Int×Value:=((x.id:Int),.pointer (some ⟨ps x.id,0,none⟩))
theorem Wn{ps:Nat→Nat}{js:List Bj}(hs:Kp js){l:List (Int×Value)}(hp:l.Perm (js.map (jE ps)))(id:Nat):Q1 (id:Int) l=(Qg js id).map fun x=>Value.pointer (some ⟨ps x.id,0,none⟩):=by
 have hk:((js.map (jE ps)).map (·.1)).Nodup:=by
  rw[List.map_map];refine List.pairwise_map.2 (hs.imp fun h e=>?_);have e:(_:Int)=_:=e;simp only[Function.comp]at e;omega
 have hn:(l.map (·.1)).Nodup:=(hp.map _).nodup_iff.2 hk;rw[Qm6 hp hn];cases hg:Qg js id with
 | some x=>
  obtain⟨h1,h2⟩:=Qd hg;exact Jw hk (List.mem_map.2 ⟨x,h1,by rw[←h2]⟩)
 | none=>
  refine C8 fun h=>?_;obtain⟨q,hq,e⟩:=List.mem_map.1 h;obtain⟨x,hx,e2⟩:=List.mem_map.1 hq;subst e2;have e:(x.id:Int)=id:=e;exact V4 hg x hx (by omega)
theorem Ql0(ps:Nat→Nat)(js:List Bj)(x:Bj):(Yo js x).map (jE ps)=js.map (jE ps):=by
 have h:=M3 js x;have e:∀l:List Bj,l.map (jE ps)=(l.map (·.id)).map fun i:Nat=>((i:Int),Value.pointer (some ⟨ps i,0,none⟩)):=fun l=>by rw[List.map_map];rfl
 rw[e,e,h]
theorem Za1{ps:Nat→Nat}{js:List Bj}(hs:Kp js){l:List (Int×Value)}(hp:l.Perm (js.map (jE ps))){id:Nat}{x:Bj}(h:Qg js id=some x):(Ko (id:Int) l).Perm ((rmJ js id).map (jE ps)):=by
 have hk:((js.map (jE ps)).map (·.1)).Nodup:=by
  rw[List.map_map];refine List.pairwise_map.2 (hs.imp fun h e=>?_);have e:(_:Int)=_:=e;simp only[Function.comp]at e;omega
 have hn:(l.map (·.1)).Nodup:=(hp.map _).nodup_iff.2 hk;obtain⟨i,h1,_,h3⟩:=Bt hs h;obtain⟨hi,e⟩:=List.getElem?_eq_some_iff.1 h1;refine Qm7 (v:=.pointer (some ⟨ps x.id,0,none⟩)) (hp.trans ?_) hn;rw[h3];have:=(Dc h1).map (jE ps);rw[List.map_cons]at this;rw[←(Qd h).2];exact this
end BN
open Go.Sort
abbrev uA(d:Array Int):List Value:=d.toList.map (Value.int .u32)
theorem Xv(d:Array Int):(uA d).length=d.size:=by simp
theorem Zh{d:Array Int}{i:Nat}(h:i<d.size):(uA d)[i]?=some (.int .u32 d[i]!):=by simp[h]
theorem Xu(d:Array Int)(i:Nat)(x:Int):(uA d).set i (.int .u32 x)=uA (d.setIfInBounds i x):=by simp[uA,List.map_set]
theorem Hr(d:Array Int)(i j:Nat):(swp d i j).size=d.size:=by simp[swp]
theorem Qwa(x:Int):Spec Tryz.prog 192 [.int .u32 x] [] fun Γ v Θ=>v=.bool false∧Θ=Γ:=by
 refine Zbd Tryz.func192 rfl Tryz.ntmps192 fun w0 Γ=>Zsh (ZY 8 (ZY 4 ?_));exact Zf ef Zq (⟨by simp only[X2];rw[decide_eq_false (fun h=>h rfl)],rfl⟩)
theorem Kh(x y:Int):Spec Tryz.prog 162 [.int .u32 x,.int .u32 y] [] fun Γ v Θ=>v=.bool (ltInt x y)∧Θ=Γ:=by
 refine Zbd Tryz.func162 rfl Tryz.ntmps162 fun w0 Γ=>Zsh (ZY 7 (Zp (Zcp Ze (Qwa x) (ZY 8 (ZY 5 ?_)))));exact Zf ef Zq (⟨rfl,rfl⟩)
theorem insInner_stop{a j:Nat}{d:Array Int}(h:¬(a<j∧ltInt d[j]! d[j-1]! = true)):insInner ltInt a j d=d:=by
 cases j with
 | zero=>rfl
 | succ j=>
  rw[insInner,if_neg];simp only[Nat.add_sub_cancel]at h;simp only[Bool.and_eq_true,decide_eq_true_eq];exact h
theorem Qcx{a j:Nat}{d:Array Int}(h:a<j)(h2:ltInt d[j]! d[j-1]! = true):insInner ltInt a j d=insInner ltInt a (j-1) (swp d j (j-1)):=by
 cases j with
 | zero=>omega
 | succ j=>
  simp only[Nat.add_sub_cancel]at h2 ⊢;rw[insInner,if_pos];simp only[Bool.and_eq_true,decide_eq_true_eq];exact⟨h,h2⟩
theorem Qrg(s:SV)(d:Array Int)(a b:Nat)(hab:a≤b)(hb:b≤d.size)(G3:d.size≤65535)(Uj:s.n=d.size):Spec Tryz.prog 156 [s.v,.int .i64 (a:Int),.int .i64 (b:Int)] [own s 31 1 (uA d)] fun Γ _ Θ=>Θ=own s 31 1 (uA (insertionSort ltInt d a b))::Γ:=by
 refine Zbd Tryz.func156 rfl Tryz.ntmps156 fun w0 Γ=>Zsh (ZY 3 (Zv (Za ef ef) (ZY 3 ?_)));refine Zl (fun q ρ' Γ'=>∃(i:Nat) (e:Array Int),q=b-i∧a+1≤i∧i≤65536∧e.size=d.size∧insOuter ltInt a b i e=insertionSort ltInt d a b∧ρ'=[(0,s.v),(1,.int .i64 (a:Int)),(2,.int .i64 (b:Int)),(6,.int .i64 (i:Int))]∧Γ'=own s 31 1 (uA e)::Γ) (m:=_) (⟨a+1,d,rfl,by omega,by omega,rfl,rfl,rfl,rfl⟩) ?_;rintro q ρ' Γ' ⟨i,e,hq,hai,hi9,hes,hio,rfl,rfl⟩;refine ZY 7 ?_
 refine Zj ef (fun h1=>?_) (fun h1=>?_)
 ·refine S.Qp s (by omega) fun sb so Q4 _ _ _=>(ZY 2 ?_)
  refine Zc (fun ρ' Γ'=>∃e2:Array Int,e2.size=d.size∧e2=insInner ltInt a i e∧ρ'=[(0,s.v),(1,.int .i64 (a:Int)),(2,.int .i64 (b:Int)),(6,.int .i64 (i:Int))]∧Γ'=own s 31 1 (uA e2)::Γ) ?_ ?_
  ·refine ZY 7 ?_;refine Zl (fun q2 ρ' Γ'=>∃(j:Nat) (z:Int) (e2:Array Int),q2=j∧z=j∧j≤i∧e2.size=d.size∧insInner ltInt a j e2=insInner ltInt a i e∧ρ'=[(0,s.v),(1,.int .i64 (a:Int)),(2,.int .i64 (b:Int)),(6,.int .i64 (i:Int)),(7,.int .i64 z)]∧Γ'=own s 31 1 (uA e2)::Γ) (m:=_) (⟨i,i,e,rfl,rfl,Nat.le_refl _,hes,rfl,rfl,rfl⟩) ?_;rintro q2 ρ' Γ' ⟨j,z,e2,hq2,hz,Tc,he2,hin,rfl,rfl⟩;refine ZY 2 ?_;refine Zd ([own s 31 1 (uA e2)]) [] (Zra 0 4) (ZY 4 ?_)
   refine Zb 19 ef (fun hg4_3=>?_) (fun hg4_3=>?_)
   ·refine Zr (Zra 4 9) (ZY 2 ?_);refine Zwg ef ef ef ef (Zx (j) ef (Q4) ef (by omega) (hz)) ?_;refine Zwg ef ef ef ef (Zo (s) (j) ef (Q4) (Zh (by omega))) (ZY 2 ?_);refine Zwg ef ef ef ef (Zm ef ef) ?_;refine Zwg ef ef ef ef (Zx (j-1) ef (Q4) ef (by omega) ((by omega))) ?_;refine Zwg ef ef ef ef (Zo (s) (j-1) ef (Q4) (Zh (by omega))) ?_;refine Z1g (i:=13) ef ef ef ef ef (rfl) ?_;refine  (Zcp Ze (Kh (e2[j]!) (e2[j-1]!)) ?_);refine Zk [14] (Zy ?_);refine ZD ?_
    refine Zi ef (fun h2=>?_) (fun h2=>?_)
    ·have Xf:=Qcx (a:=a) (j:=j) (d:=e2) (by omega) h2;rw[hin]at Xf;refine ZY 3 ?_;refine Zd ([own s 31 1 (uA e2)]) [15] [0,1] (ZY 2 ?_);refine ZP 2 [] ef (Z8 rfl) ef ?_;refine ZP 3 [] ef (Z8 rfl) ef ?_;refine ZP 4 (Zra 5 10) ef (Qdq rfl rfl (Y0 (by omega) (by omega))) ef (ZY 2 ?_);refine Zw ef (Zm ef ef) ?_;refine Zw ef (Zx (j-1) ef (Q4) ef (by omega) ((by omega))) ?_;refine Zw ef (Zo (s) (j-1) ef (Q4) (Zh (by omega))) (ZY 2 ?_);refine Zw ef (Zx (j) ef (Q4) ef (by omega) (hz)) ?_;refine Zw ef (Zo (s) (j) ef (Q4) (Zh (by omega))) ?_;refine Zw ef (Zx (j) ef (Q4) ef (by omega) (hz)) ?_;refine Z1 (i:=15) ef ef ?_;refine(S.Yb (s) (j) Eo.h rfl rfl rfl Q4 (by first|rfl|exact Nat.add_assoc _ _ _|omega) (by rw[Xv];omega) (Xu _ _ _) ?_);refine ZL ([]) [16] ?_;refine Zw ef (Zx (j-1) ef (Q4) ef (by omega) ((by omega))) ?_;refine Z1 (i:=17) ef ef ?_;refine(S.Yb (s) (j-1) Eo.h rfl rfl rfl Q4 (by first|rfl|exact Nat.add_assoc _ _ _|omega) (by rw[Xv,Array.size_setIfInBounds];omega) (show _=uA (Go.Sort.swp e2 (j) (j-1)) from Xu _ _ _) ?_);refine Zk [] ?_;refine ZD (ZY 2 (Zv (Zm ef ef) (ZY 2 ?_)));exact ZX (j-1) (⟨j-1,z-1,swp e2 j (j-1),rfl,by omega,by omega,by rw[Hr,he2],Xf.symm,rfl,rfl⟩) (by omega)
    ·have Xf:insInner ltInt a j e2=e2:=insInner_stop (fun h=>by rw[h.2]at h2;cases h2);refine Zy ?_;exact ZM ⟨e2,he2,Xf.symm.trans hin,rfl,rfl⟩
   ·have Xf:insInner ltInt a j e2=e2:=insInner_stop (fun h=>hg4_3 (by omega));refine Zr (Zra 4 11) (ZY 8 (ZY 3 ?_));refine ZD (ZY 2 ?_);exact ZM ⟨e2,he2,Xf.symm.trans hin,rfl,rfl⟩
  ·rintro ρ' Γ' ⟨e2,he2,hin,rfl,rfl⟩;refine ZY 2 (Zv (Za ef ef) (ZY 2 ?_));exact ZX (q-1) (⟨i+1,e2,by omega,by omega,by omega,he2,by rw[hin,←hio];conv=>rhs;rw[insOuter,if_pos (by omega)],rfl,rfl⟩) (by omega)
 ·refine Zy ?_;exact Zfn ef Zq (by have Xi:insertionSort ltInt d a b=e:=(by rw[←hio,insOuter,if_neg (by omega)]);rw[Xi])
theorem Az(hi F:Nat):∀(n r:Nat) (d:Array Int),hi-r≤n→(siftDown ltInt hi F r d).size=d.size
 | 0,r,d,h=>by rw[siftDown,dif_pos (by omega)]
 | n+1,r,d,h=>by
  rw[siftDown]
  split
  ·rfl
  split
  ·split
   ·rfl
   split
   ·rw[Az hi F n _ _ (by omega),Hr]
   ·rfl
  ·split
   ·rfl
   ·rw[Az hi F n _ _ (by omega),Hr]
theorem Qqf(hi F r:Nat)(d:Array Int):(siftDown ltInt hi F r d).size=d.size:=Az hi F _ r d (Nat.le_refl _)
theorem T8(s:SV)(d:Array Int)(lo hi F:Nat)(hF:F+hi≤d.size)(hlo:lo≤65535)(G3:d.size≤65535)(Uj:s.n=d.size):Spec Tryz.prog 187 [s.v,.int .i64 (lo:Int),.int .i64 (hi:Int),.int .i64 (F:Int)] [own s 31 1 (uA d)] fun Γ _ Θ=>Θ=own s 31 1 (uA (siftDown ltInt hi F lo d))::Γ:=by
 refine Zbd Tryz.func187 rfl Tryz.ntmps187 fun w0 Γ=>Zsh (ZY 6 ?_);refine Zl (fun q ρ' Γ'=>∃(r:Nat) (z:Int) (e:Array Int),q=hi-r∧z=r∧r≤65535∧e.size=d.size∧siftDown ltInt hi F r e=siftDown ltInt hi F lo d∧ρ'=[(0,s.v),(1,.int .i64 (lo:Int)),(2,.int .i64 (hi:Int)),(3,.int .i64 (F:Int)),(8,.int .i64 z)]∧Γ'=own s 31 1 (uA e)::Γ) (m:=_) (⟨lo,lo,d,rfl,rfl,hlo,rfl,rfl,rfl,rfl⟩) ?_;rintro q ρ' Γ' ⟨r,z,e,hq,hz,hr9,hes,hsd,rfl,rfl⟩;refine ZY 4 (Zv (Qdr rfl rfl (Y0 (by omega) (by omega))) (Zv (Za ef ef) (ZY 8 (Zy ?_))))
 refine Zj ef (fun h1=>?_) (fun h1=>?_)
 ·have Xi:e=siftDown ltInt hi F lo d:=by rw[←hsd,siftDown,dif_pos (by omega)]
  refine Zy ?_;exact Zfn ef Zq (by rw[←Xi])
 ·refine S.Qp s (by omega) fun sb so Q4 _ _ _=>?_;have Vb:¬(2*r+1≥hi):=by omega
  refine ZY 3 ?_
  refine Zc (fun ρ' Γ'=>∃bb:Bool,bb=(decide (2*r+1+1<hi)&&ltInt e[F+(2*r+1)]! e[F+(2*r+1)+1]!)∧ρ'=[(0,s.v),(1,.int .i64 (lo:Int)),(2,.int .i64 (hi:Int)),(3,.int .i64 (F:Int)),(8,.int .i64 z),(9,.int .i64 (2*z+1)),(36,.bool bb)]∧Γ'=own s 31 1 (uA e)::Γ) ?_ ?_
  ·refine Zd ([own s 31 1 (uA e)]) [] (Zra 0 5) (Zy ?_);refine Zw ef (Za ef ef) (ZY 3 ?_)
   refine Zb 21 ef (fun hg3_4=>?_) (fun hg3_4=>?_)
   ·refine Zr (Zra 5 13) (ZY 3 ?_);refine Zwg ef ef ef ef (Za ef ef) ?_;refine Zwg ef ef ef ef (Zx (F+(2*r+1)) ef (Q4) ef (by omega) ((by omega))) ?_;refine Zwg ef ef ef ef (Zo (s) (F+(2*r+1)) ef (Q4) (Zh (by omega))) (ZY 3 ?_);refine Zwg ef ef ef ef (Za ef ef) ?_;refine Zwg ef ef ef ef (Za ef ef) ?_;refine Zwg ef ef ef ef (Zx (F+(2*r+1)+1) ef (Q4) ef (by omega) ((by omega))) ?_;refine Zwg ef ef ef ef (Zo (s) (F+(2*r+1)+1) ef (Q4) (Zh (by omega))) ?_;refine Z1g (i:=18) ef ef ef ef ef (rfl) ?_;refine  (Zcp Ze (Kh (e[F+(2*r+1)]!) (e[F+(2*r+1)+1]!)) ?_);refine Zk [19] (Zy ?_);refine ZD ?_;first|(exact S.meet ⟨_,by rw[decide_eq_true (show 2*r+1+1<hi by omega)];rfl,rfl,rfl⟩ ⟨rfl,rfl,rfl,rfl,rfl,rfl,rfl,trivial⟩ Sub.Qh)|(exact S.meet ⟨_,by rw[decide_eq_false (show ¬2*r+1+1<hi by omega)];rfl,rfl,rfl⟩ ⟨rfl,rfl,rfl,rfl,rfl,rfl,rfl,trivial⟩ Sub.Qh)
   ·refine Zr (Zra 5 15) (ZY 8 (ZY 7 ?_));refine ZD ?_;first|(exact S.meet ⟨_,by rw[decide_eq_true (show 2*r+1+1<hi by omega)];rfl,rfl,rfl⟩ ⟨rfl,rfl,rfl,rfl,rfl,rfl,rfl,trivial⟩ Sub.Qh)|(exact S.meet ⟨_,by rw[decide_eq_false (show ¬2*r+1+1<hi by omega)];rfl,rfl,rfl⟩ ⟨rfl,rfl,rfl,rfl,rfl,rfl,rfl,trivial⟩ Sub.Qh)
  ·rintro ρ' Γ' ⟨bb,hbb,rfl,rfl⟩
   refine Zc (fun ρ' Γ'=>∃(c:Nat) (zc:Int),zc=c∧r<c∧c<hi∧(siftDown ltInt hi F r e=if (!ltInt e[F+r]! e[F+c]!)=true then e else siftDown ltInt hi F c (swp e (F+r) (F+c)))∧ρ'=[(0,s.v),(1,.int .i64 (lo:Int)),(2,.int .i64 (hi:Int)),(3,.int .i64 (F:Int)),(8,.int .i64 z),(9,.int .i64 zc)]∧Γ'=own s 31 1 (uA e)::Γ) ?_ ?_
   ·refine Zi ef (fun h2=>?_) (fun h2=>?_)
    ·rw[h2]at hbb
     have Sk:2*r+2<hi:=by
      have:=hbb.symm;rw[Bool.and_eq_true,decide_eq_true_eq]at this;omega
     have Wd:siftDown ltInt hi F r e=if (!ltInt e[F+r]! e[F+(2*r+2)]!)=true then e else siftDown ltInt hi F (2*r+2) (swp e (F+r) (F+(2*r+2))):=by
      conv=>lhs;rw[siftDown,dif_neg Vb,if_pos hbb.symm,dif_pos Sk]
     refine ZY 2 (Zv (Za ef ef) (ZY 2 ?_));first|exact S.meet ⟨2*r+2,2*z+1+1,by omega,by omega,Sk,Wd,rfl,rfl⟩ ⟨rfl,rfl,rfl,rfl,rfl,rfl,trivial⟩ Sub.Qh|exact S.meet ⟨2*r+1,2*z+1,by omega,by omega,Sk,Wd,rfl,rfl⟩ ⟨rfl,rfl,rfl,rfl,rfl,rfl,trivial⟩ Sub.Qh
    ·rw[h2]at hbb;have Sk:2*r+1<hi:=by omega
     have Wd:siftDown ltInt hi F r e=if (!ltInt e[F+r]! e[F+(2*r+1)]!)=true then e else siftDown ltInt hi F (2*r+1) (swp e (F+r) (F+(2*r+1))):=by
      conv=>lhs;rw[siftDown,dif_neg Vb,if_neg (by rw[←hbb];simp)]
     refine Zy ?_;first|exact S.meet ⟨2*r+2,2*z+1+1,by omega,by omega,Sk,Wd,rfl,rfl⟩ ⟨rfl,rfl,rfl,rfl,rfl,rfl,trivial⟩ Sub.Qh|exact S.meet ⟨2*r+1,2*z+1,by omega,by omega,Sk,Wd,rfl,rfl⟩ ⟨rfl,rfl,rfl,rfl,rfl,rfl,trivial⟩ Sub.Qh
   ·rintro ρ' Γ' ⟨c,zc,hzc,hrc,hch,Wd,rfl,rfl⟩;refine ZY 2 ?_;refine Zd ([own s 31 1 (uA e)]) [] (Zra 0 12) (ZY 3 ?_);refine Zw ef (Za ef ef) ?_;refine Zw ef (Zx (F+r) ef (Q4) ef (by omega) ((by omega))) ?_;refine Zw ef (Zo (s) (F+r) ef (Q4) (Zh (by omega))) (ZY 3 ?_);refine Zw ef (Za ef ef) ?_;refine Zw ef (Zx (F+c) ef (Q4) ef (by omega) ((by omega))) ?_;refine Zw ef (Zo (s) (F+c) ef (Q4) (Zh (by omega))) ?_;refine Z1 (i:=12) ef ef ?_;refine  (Zcp Ze (Kh (e[F+r]!) (e[F+c]!)) ?_);refine Zk [13] (Zy ?_);refine ZD ?_
    refine Zi ef (fun h3=>?_) (fun h3=>?_)
    ·have Xi:e=siftDown ltInt hi F lo d:=by rw[←hsd,Wd,if_pos h3]
     refine Zy ?_;exact Zf ef Zq (by rw[←Xi])
    ·have Xi:siftDown ltInt hi F c (swp e (F+r) (F+c))=siftDown ltInt hi F lo d:=by rw[←hsd,Wd,if_neg (by rw[h3];simp)]
     refine ZY 2 ?_;refine Zd ([own s 31 1 (uA e)]) [21] (Zra 0 4) (ZY 3 ?_);refine Zw ef (Za ef ef) ?_;refine ZP 4 [] ef (Z8 rfl) ef ?_;refine ZP 5 [] ef (Z8 rfl) ef ?_;refine ZP 6 [] ef (Z8 rfl) ef ?_;refine ZP 7 (Zra 8 13) ef (Fc rfl rfl (Y0 (by omega) (by omega))) ef (ZY 3 ?_);refine Zw ef (Za ef ef) ?_;refine Zw ef (Zx (F+c) ef (Q4) ef (by omega) ((by omega))) ?_;refine Zw ef (Zo (s) (F+c) ef (Q4) (Zh (by omega))) (ZY 3 ?_);refine Zw ef (Za ef ef) ?_;refine Zw ef (Zx (F+r) ef (Q4) ef (by omega) ((by omega))) ?_;refine Zw ef (Zo (s) (F+r) ef (Q4) (Zh (by omega))) ?_;refine Zw ef (Zx (F+r) ef (Q4) ef (by omega) ((by omega))) ?_;refine Z1 (i:=21) ef ef ?_;refine(S.Yb (s) (F+r) Eo.h rfl rfl rfl Q4 (by first|rfl|exact Nat.add_assoc _ _ _|omega) (by rw[Xv];omega) (Xu _ _ _) ?_);refine ZL ([]) [22] ?_;refine Zw ef (Zx (F+c) ef (Q4) ef (by omega) ((by omega))) ?_;refine Z1 (i:=23) ef ef ?_;refine(S.Yb (s) (F+c) Eo.h rfl rfl rfl Q4 (by first|rfl|exact Nat.add_assoc _ _ _|omega) (by rw[Xv,Array.size_setIfInBounds];omega) (show _=uA (Go.Sort.swp e (F+r) (F+c)) from Xu _ _ _) ?_);refine Zk [] ?_;refine ZD (ZY 4 ?_);exact ZX (hi-c) (⟨c,zc,swp e (F+r) (F+c),rfl,hzc,by omega,by rw[Hr,hes],Xi,rfl,rfl⟩) (by omega)
theorem Qmg(s:SV)(d:Array Int)(a b:Nat)(hab:a<b)(hb:b≤d.size)(G3:d.size≤65535)(Uj:s.n=d.size):Spec Tryz.prog 157 [s.v,.int .i64 (a:Int),.int .i64 (b:Int)] [own s 31 1 (uA d)] fun Γ _ Θ=>Θ=own s 31 1 (uA (heapSort ltInt d a b))::Γ:=by
 refine Zbd Tryz.func157 rfl Tryz.ntmps157 fun w0 Γ=>Zsh ?_
 have Q4x:∀hi F lo (e:Array Int),F+hi≤e.size→lo≤65535→e.size=d.size→(siftDown ltInt hi F lo e).size=d.size:=fun hi F lo e h1 _ h3=>by
  rw[Qqf,h3]
 refine ZY 8 (ZY 5 (Zv (Zm ef ef) (ZY 6 (Zv (Zm ef ef) ?_))));refine Zv (Qap rfl rfl (⟨by omega,by omega⟩) (Y0 (by omega) (by omega))) (ZY 3 ?_);refine Zl (fun q ρ' Γ'=>∃(k:Nat) (z:Int) (e:Array Int),q=k∧z=(k:Int)-1∧k≤65535∧e.size=d.size∧heapBuild ltInt (b-a) a k e=heapBuild ltInt (b-a) a ((b-a-1) / 2+1) d∧ρ'=[(0,s.v),(6,.int .i64 (a:Int)),(7,.int .i64 0),(8,.int .i64 ((b:Int)-a)),(9,.int .i64 z)]∧Γ'=own s 31 1 (uA e)::Γ) (m:=_) (⟨(b-a-1) / 2+1,((b:Int)-a-1) / 2,d,rfl,by omega,by omega,rfl,rfl,rfl,rfl⟩) ?_;rintro q ρ' Γ' ⟨k,z,e,hq,hz,hk9,hes,hhb,rfl,rfl⟩;refine ZY 6 ?_
 refine Zj ef (fun h1=>?_) (fun h1=>?_)
 ·obtain⟨k,rfl⟩:∃k',k=k'+1:=⟨k-1,by omega⟩;refine ZY 8 ?_;refine Zp (Zc1 Ze ((by rw[show z=(k:Int) by omega,show ((b:Int)-a)=((b-a:Nat):Int) by omega];exact T8 s e k (b-a) a (by omega) (by omega) (by omega) (by omega))) ?_);rintro v Θ rfl;refine ZY 3 (Zv (Zm ef ef) (ZY 2 ?_));exact ZX (k) (⟨k,z-1,siftDown ltInt (b-a) a k e,rfl,by omega,by omega,Q4x _ _ _ _ (by omega) (by omega) hes,hhb,rfl,rfl⟩) (by omega)
 ·have hk0:k=0:=by omega
  subst hk0;have hhb:e=heapBuild ltInt (b-a) a ((b-a-1) / 2+1) d:=hhb;have hhs:heapSort ltInt d a b=heapPop ltInt a (b-a) e:=by rw[hhb];rfl
  refine S.Qp s (by omega) fun sb so Q4 _ _ _=>(ZY 4 (Zv (Zm ef ef) (ZY 3 ?_)));refine Zl (fun q ρ' Γ'=>∃(k:Nat) (z:Int) (e:Array Int),q=k∧z=(k:Int)-1∧k≤b-a∧e.size=d.size∧heapPop ltInt a k e=heapSort ltInt d a b∧ρ'=[(0,s.v),(6,.int .i64 (a:Int)),(7,.int .i64 0),(10,.int .i64 z)]∧Γ'=own s 31 1 (uA e)::Γ) (m:=_) (⟨b-a,((b:Int)-a)-1,e,rfl,by omega,by omega,hes,hhs.symm,rfl,rfl⟩) ?_;rintro q ρ' Γ' ⟨k,z,e,hq,hz,hk9,hes,hhb,rfl,rfl⟩;refine ZY 6 ?_
  refine Zj ef (fun h2=>?_) (fun h2=>?_)
  ·obtain⟨k,rfl⟩:∃k',k=k'+1:=⟨k-1,by omega⟩;refine ZY 4 ?_;refine Zd ([own s 31 1 (uA e)]) [17] [0,1] (ZY 2 ?_);refine ZP 2 [] ef (Z8 rfl) ef ?_;refine ZP 3 [] ef (Z8 rfl) ef ?_;refine ZP 4 [] ef (Z8 rfl) ef ?_;refine ZP 5 (Zra 6 11) ef (Fc rfl rfl (Y0 (by omega) (by omega))) ef (ZY 3 ?_);refine Zw ef (Za ef ef) ?_;refine Zw ef (Zx (a+k) ef (Q4) ef (by omega) ((by omega))) ?_;refine Zw ef (Zo (s) (a+k) ef (Q4) (Zh (by omega))) (ZY 2 ?_);refine Zw ef (Zx (a) ef (Q4) ef (by omega)) ?_;refine Zw ef (Zo (s) (a) ef (Q4) (Zh (by omega))) ?_;refine Zw ef (Zx (a) ef (Q4) ef (by omega)) ?_;refine Z1 (i:=17) ef ef ?_;refine(S.Yb (s) (a) Eo.h rfl rfl rfl Q4 (by first|rfl|exact Nat.add_assoc _ _ _|omega) (by rw[Xv];omega) (Xu _ _ _) ?_);refine ZL ([]) [18] ?_;refine Zw ef (Zx (a+k) ef (Q4) ef (by omega) ((by omega))) ?_;refine Z1 (i:=19) ef ef ?_;refine(S.Yb (s) (a+k) Eo.h rfl rfl rfl Q4 (by first|rfl|exact Nat.add_assoc _ _ _|omega) (by rw[Xv,Array.size_setIfInBounds];omega) (show _=uA (Go.Sort.swp e (a) (a+k)) from Xu _ _ _) ?_);refine Zk [] ?_;refine ZD (ZY 5 ?_);refine Zp (Zc1 Ze ((by rw[show z=(k:Int) by omega];exact T8 s (swp e a (a+k)) 0 k a (by rw[Hr];omega) (by omega) (by rw[Hr];omega) (by rw[Hr];omega))) ?_);rintro v Θ rfl;refine ZY 3 (Zv (Zm ef ef) (ZY 2 ?_));exact ZX (k) (⟨k,z-1,siftDown ltInt k a 0 (swp e a (a+k)),rfl,by omega,by omega,Q4x _ _ _ _ (by rw[Hr];omega) (by omega) (by rw[Hr,hes]),hhb,rfl,rfl⟩) (by omega)
  ·refine Zy ?_;exact Zfn ef Zq (by have hk0:k=0:=(by omega);subst hk0;have hhb:e=heapSort ltInt d a b:=hhb;rw[←hhb])
open Go.Sort
theorem PermIn.Hr{a b i j:Nat}{d e:Array Int}(h:PermIn a b d e)(h1:a≤i)(h2:i<b)(h3:a≤j)(h4:j<b)(hb:b≤d.size):PermIn a b d (swp e i j):=
 permIn_trans _ _ _ _ _ h (swp_permIn e a b i j h1 h2 h3 h4 (by rw[h.1];exact hb))
theorem Qqm(s:SV)(d:Array Int)(a b:Nat)(hab:a<b)(hb:b≤d.size)(G3:d.size≤65535)(Uj:s.n=d.size):Spec Tryz.prog 160 [s.v,.int .i64 (a:Int),.int .i64 (b:Int)] [own s 31 1 (uA d)] fun Γ _ Θ=>∃e,PermIn a b d e∧Θ=own s 31 1 (uA e)::Γ:=by
 refine Zbd Tryz.func160 rfl Tryz.ntmps160 fun w0 Γ=>Zsh ?_;refine S.Qp s (by omega) fun sb so Q4 _ _ _=>(ZY 8 (Zv (Zm ef ef) (ZY 3 ?_)));refine Zl (fun q ρ' Γ'=>∃(i j:Nat) (zi zj:Int) (e:Array Int),q=j-i∧zi=i∧zj=j∧a≤i∧i≤b∧j<b∧e.size=d.size∧PermIn a b d e∧ρ'=[(0,s.v),(6,.int .i64 zi),(7,.int .i64 zj)]∧Γ'=own s 31 1 (uA e)::Γ) (m:=_) (⟨a,b-1,a,(b:Int)-1,d,rfl,rfl,by omega,by omega,by omega,by omega,rfl,permIn_refl _ _ _,rfl,rfl⟩) ?_;rintro q ρ' Γ' ⟨i,j,zi,zj,e,hq,hzi,hzj,hai,hib,hjb,hes,Tb,rfl,rfl⟩;refine ZY 7 ?_
 refine Zj ef (fun h1=>?_) (fun h1=>?_)
 ·refine ZY 3 ?_;refine Zd ([own s 31 1 (uA e)]) [13] [0,1] (ZY 2 ?_);refine ZP 2 [] ef (Z8 rfl) ef ?_;refine ZP 3 (Zra 4 9) ef (Z8 rfl) ef (ZY 2 ?_);refine Zw ef (Zx (j) ef (Q4) ef (by omega) (hzj)) ?_;refine Zw ef (Zo (s) (j) ef (Q4) (Zh (by omega))) (ZY 2 ?_);refine Zw ef (Zx (i) ef (Q4) ef (by omega) (hzi)) ?_;refine Zw ef (Zo (s) (i) ef (Q4) (Zh (by omega))) ?_;refine Zw ef (Zx (i) ef (Q4) ef (by omega) (hzi)) ?_;refine Z1 (i:=13) ef ef ?_;refine(S.Yb (s) (i) Eo.h rfl rfl rfl Q4 (by first|rfl|exact Nat.add_assoc _ _ _|omega) (by rw[Xv];omega) (Xu _ _ _) ?_);refine ZL ([]) [14] ?_;refine Zw ef (Zx (j) ef (Q4) ef (by omega) (hzj)) ?_;refine Z1 (i:=15) ef ef ?_;refine(S.Yb (s) (j) Eo.h rfl rfl rfl Q4 (by first|rfl|exact Nat.add_assoc _ _ _|omega) (by rw[Xv,Array.size_setIfInBounds];omega) (show _=uA (Go.Sort.swp e (i) (j)) from Xu _ _ _) ?_);refine Zk [] ?_;refine ZD (ZY 3 (Zv (Za ef ef) (ZY 4 (Zv (Zm ef ef) (ZY 2 ?_)))));exact ZX (q-1-1) (⟨i+1,j-1,zi+1,zj-1,swp e i j,by omega,by omega,by omega,by omega,by omega,by omega,by rw[Hr,hes],PermIn.Hr (a:=a) (b:=b) (d:=d) (e:=e) Tb (by omega) (by omega) (by omega) (by omega) hb,rfl,rfl⟩) (by omega)
 ·refine Zy ?_;exact Zfn ef Zq (⟨e,Tb,rfl⟩)
theorem Qa5(s:SV)(d:Array Int)(x y p:Nat)(k K:Int)(hx:x<d.size)(hy:y<d.size)(hk:0≤k∧k≤K)(hK:K≤1000)(Uj:s.n=d.size):Spec Tryz.prog 217 [s.v,.int .i64 (x:Int),.int .i64 (y:Int),.pointer (some ⟨p,0,none⟩)] [own s 31 1 (uA d),blk p 3 #[.int .i64 k]] fun Γ v Θ=>
  ∃(u v':Nat) (k':Int),(u=x∧v'=y∨u=y∧v'=x)∧(0≤k'∧k'≤K+1)∧v=.tuple #[.int .i64 (u:Int),.int .i64 (v':Int)]∧Θ=own s 31 1 (uA d)::blk p 3 #[.int .i64 k']::Γ:=by
 refine Zbd Tryz.func217 rfl Tryz.ntmps217 fun w0 Γ=>Zsh ?_;refine S.Qp s (by omega) fun sb so Q4 _ _ _=>(ZY 7 ?_);refine Zd ([own s 31 1 (uA d),blk p 3 #[.int .i64 k]]) [] (Zra 0 8) (ZY 2 ?_);refine Zw ef (Zx (y) ef (Q4) ef (by omega)) ?_;refine Zw ef (Zo (s) (y) ef (Q4) (Zh hy)) (ZY 2 ?_);refine Zw ef (Zx (x) ef (Q4) ef (by omega)) ?_;refine Zw ef (Zo (s) (x) ef (Q4) (Zh hx)) ?_;refine Z1 (i:=8) ef ef ?_;refine  (Zcp Ze (Kh (d[y]!) (d[x]!)) ?_);refine Zk [] ?_;refine ZD ?_
 refine Zi ef (fun h1=>?_) (fun h1=>?_)
 ·refine ZY 5 (Zv (Za ef ef) (ZY 8 (ZY 3 ?_)));exact Zf ef Zq (⟨y,x,k+1,.inr ⟨rfl,rfl⟩,by omega,rfl,rfl⟩)
 ·refine ZY 8 (Zy ?_);exact Zf ef Zq (⟨x,y,k,.inl ⟨rfl,rfl⟩,by omega,rfl,rfl⟩)
theorem Qis(s:SV)(d:Array Int)(x y z p:Nat)(k K:Int)(hx:x<d.size)(hy:y<d.size)(hz:z<d.size)(hk:0≤k∧k≤K)(hK:K≤900)(Uj:s.n=d.size):Spec Tryz.prog 191 [s.v,.int .i64 (x:Int),.int .i64 (y:Int),.int .i64 (z:Int),.pointer (some ⟨p,0,none⟩)] [own s 31 1 (uA d),blk p 3 #[.int .i64 k]] fun Γ v Θ=>
  ∃(u:Nat) (k':Int),(u=x∨u=y∨u=z)∧(0≤k'∧k'≤K+3)∧v=.int .i64 (u:Int)∧Θ=own s 31 1 (uA d)::blk p 3 #[.int .i64 k']::Γ:=by
 refine Zbd Tryz.func191 rfl Tryz.ntmps191 fun w0 Γ=>Zsh (ZY 8 (ZY 2 (Zp (Zc1 Ze (Qa5 s d x y p k K hx hy hk (by omega) Uj) ?_))));rintro v Θ ⟨x1,y1,k1,h1,hk1,rfl,rfl⟩;refine ZY 8 (ZY 4 (Zp (Zc1 Ze (Qa5 s d y1 z p k1 (K+1) (by omega) hz hk1 (by omega) Uj) ?_)));rintro v Θ ⟨y2,z2,k2,h2,hk2,rfl,rfl⟩;refine ZY 8 (ZY 4 (Zp (Zc1 Ze (Qa5 s d x1 y2 p k2 (K+1+1) (by omega) (by omega) hk2 (by omega) Uj) ?_)));rintro v Θ ⟨x3,y3,k3,h3,Ry,rfl,rfl⟩;refine ZY 8 (ZY 4 ?_);exact Zf ef Zq (⟨y3,k3,by omega,by omega,rfl,rfl⟩)
theorem Ct(s:SV)(d:Array Int)(x p:Nat)(k K:Int)(Ta:0<x)(hx:x+1<d.size)(G3:d.size≤65535)(hk:0≤k∧k≤K)(hK:K≤900)(Uj:s.n=d.size):Spec Tryz.prog 190 [s.v,.int .i64 (x:Int),.pointer (some ⟨p,0,none⟩)] [own s 31 1 (uA d),blk p 3 #[.int .i64 k]] fun Γ v Θ=>
  ∃(u:Nat) (k':Int),(x≤u+1∧u≤x+1)∧(0≤k'∧k'≤K+3)∧v=.int .i64 (u:Int)∧Θ=own s 31 1 (uA d)::blk p 3 #[.int .i64 k']::Γ:=by
 refine Zbd Tryz.func190 rfl Tryz.ntmps190 fun w0 Γ=>Zsh (ZY 8 (Zv (Zm ef ef) (ZY 2 (Zv (Za ef ef) (Zy ?_)))));refine Zp (Zc1 Ze ((by rw[show ((x:Int)-1)=((x-1:Nat):Int) by omega];exact Qis s d (x-1) x (x+1) p k K (by omega) (by omega) hx hk hK Uj)) ?_);rintro v Θ ⟨u,k',hu,hk',rfl,rfl⟩;refine ZY 3 ?_;exact Zf ef Zq (⟨u,k',by omega,hk',rfl,rfl⟩)
theorem Qyb(s:SV)(d:Array Int)(a b:Nat)(hab:a+12<b)(hb:b≤d.size)(G3:d.size≤65535)(Uj:s.n=d.size):Spec Tryz.prog 159 [s.v,.int .i64 (a:Int),.int .i64 (b:Int)] [own s 31 1 (uA d)] fun Γ v Θ=>
  ∃(u:Nat) (h:Int),(a≤u∧u<b)∧v=.tuple #[.int .i64 (u:Int),.int .i64 h]∧Θ=own s 31 1 (uA d)::Γ:=by
 refine Zbd Tryz.func159 rfl Tryz.ntmps159 fun w0 Γ=>Zsh ?_;obtain⟨i,hi⟩:∃i:Nat,(i:Int)=a+(b-a) / 4*1:=⟨a+(b-a) / 4*1,by omega⟩;obtain⟨j,hj⟩:∃j:Nat,(j:Int)=a+(b-a) / 4*2:=⟨a+(b-a) / 4*2,by omega⟩;obtain⟨l,hl⟩:∃l:Nat,(l:Int)=a+(b-a) / 4*3:=⟨a+(b-a) / 4*3,by omega⟩;refine ZY 8 (Zy (Zv (Zm ef ef) (ZY 4 (Zp (S.alloc Tryz.z3.h rfl ?_)))));intro b9;refine ZY 5 ?_;refine Zv (Qap rfl rfl (⟨by omega,by omega⟩) (Y0 (by omega) (by omega))) (Zv (Qdr rfl rfl (Y0 (by omega) (by omega))) (Zv (Za ef ef) (ZY 6 ?_)));refine Zv (Qap rfl rfl (⟨by omega,by omega⟩) (Y0 (by omega) (by omega))) (Zv (Qdr rfl rfl (Y0 (by omega) (by omega))) (Zv (Za ef ef) (ZY 6 ?_)));refine Zv (Qap rfl rfl (⟨by omega,by omega⟩) (Y0 (by omega) (by omega))) (Zv (Qdr rfl rfl (Y0 (by omega) (by omega))) (Zv (Za ef ef) (ZY 5 ?_)));rw[←hi,←hj,←hl];refine ZY 3 ?_
 refine Zj ef (fun h1=>?_) (fun h1=>?_)
 ·refine ZY 6 ?_
  refine Zc (fun ρ' Γ'=>∃(i2 j2 l2:Nat) (k3:Int),(a≤i2∧i2<b)∧(a≤j2∧j2<b)∧(a≤l2∧l2<b)∧(0≤k3∧k3≤9)∧ρ'=[(0,s.v),(9,.pointer (some ⟨b9,0,none⟩)),(10,.int .i64 (i2:Int)),(11,.int .i64 (j2:Int)),(12,.int .i64 (l2:Int))]∧Γ'=own s 31 1 (uA d)::blk b9 3 #[.int .i64 k3]::Γ) ?_ ?_
  ·refine Zj ef (fun h2=>?_) (fun h2=>?_)
   ·refine ZY 4 (Zp (Zc1 Ze (Ct s d i b9 0 0 (by omega) (by omega) G3 (by omega) (by omega) Uj) ?_));rintro v Θ ⟨i2,k1,D6,hk1,rfl,rfl⟩;refine ZY 6 (Zp (Zc1 Ze (Ct s d j b9 k1 (0+3) (by omega) (by omega) G3 hk1 (by omega) Uj) ?_));rintro v Θ ⟨j2,k2,hj2,hk2,rfl,rfl⟩;refine ZY 5 (Zp (Zc1 Ze (Ct s d l b9 k2 (0+3+3) (by omega) (by omega) G3 hk2 (by omega) Uj) ?_));rintro v Θ ⟨l2,k3,Gq,Ry,rfl,rfl⟩;refine ZY 2 ?_;first|exact S.meet ⟨i2,j2,l2,k3,by omega,by omega,by omega,by omega,rfl,rfl⟩ ⟨rfl,rfl,rfl,rfl,rfl,trivial⟩ Sub.Qh|exact S.meet ⟨i,j,l,0,by omega,by omega,by omega,by omega,rfl,rfl⟩ ⟨rfl,rfl,rfl,rfl,rfl,trivial⟩ Sub.Qh
   ·refine Zy ?_;first|exact S.meet ⟨i2,j2,l2,k3,by omega,by omega,by omega,by omega,rfl,rfl⟩ ⟨rfl,rfl,rfl,rfl,rfl,trivial⟩ Sub.Qh|exact S.meet ⟨i,j,l,0,by omega,by omega,by omega,by omega,rfl,rfl⟩ ⟨rfl,rfl,rfl,rfl,rfl,trivial⟩ Sub.Qh
  ·rintro ρ' Γ' ⟨i2,j2,l2,k3,D6,hj2,Gq,Ry,rfl,rfl⟩;refine ZY 5 (Zp (Zc1 Ze (Qis s d i2 j2 l2 b9 k3 9 (by omega) (by omega) (by omega) Ry (by omega) Uj) ?_));rintro v Θ ⟨u,k4,hu,hk4,rfl,rfl⟩;refine ZY 8 (ZY 4 ?_)
   refine Zj ef (fun h3=>?_) (fun h3=>?_)
   ·refine ZY 7 ?_;exact Zf ef Zq (⟨u,1,by omega,rfl,rfl⟩)
   ·refine ZY 5 ?_
    refine Zj ef (fun h4=>?_) (fun h4=>?_)
    ·refine ZY 7 ?_;exact Zf ef Zq (⟨u,2,by omega,rfl,rfl⟩)
    ·refine ZY 7 ?_;exact Zf ef Zq (⟨u,0,by omega,rfl,rfl⟩)
 ·omega
section
variable {P:Program}{n:Nat}{ρ:Env}{Γ:List Assn}{ty:TypeId}{pos:String}{af:Array Edge}{gd:Option (Nat×Bool)}{ds:Option Tmp}
theorem Qli{t yt:TypeId}{x y:Operand}{k ky:IntKind}{p q:Int}(m:Nat)(hx:ev ρ x=some (.int k p))(hy:ev ρ y=some (.int ky q))(hq:q=((m:Nat):Int))(hm:Nat.ble m k.bits=true):Qv P n ρ Γ ⟨ds,.binOp .shl t x y yt,ty,pos,af,gd⟩ (.int k (k.wrap (p*2 ^ m))):=fun a w ha _=>by
 subst hq;have h0:¬((m:Int)<0):=by omega
 have h1:min m k.bits=m:=Nat.min_eq_left (Nat.le_of_ble_eq_true hm);simp[execOp,ha.ev hx,ha.ev hy,eqGuard,binOp,Op.shift,h0,h1]
abbrev Qzr(p q:Int):Int:=IntKind.u64.wrap ((BitVec.ofInt 64 p ^^^ BitVec.ofInt 64 q).toNat:Int)
theorem Qlh{t yt:TypeId}{x y:Operand}{p q:Int}(hx:ev ρ x=some (.int .u64 p))(hy:ev ρ y=some (.int .u64 q)):Qv P n ρ Γ ⟨ds,.binOp .xor t x y yt,ty,pos,af,gd⟩ (.int .u64 (Qzr p q)):=fun a w ha _=>by
 simp[execOp,ha.ev hx,ha.ev hy,eqGuard,binOp,Op.intBits,IntKind.bits];rfl
abbrev Qyz(p q:Int):Int:=IntKind.u64.wrap ((BitVec.ofInt 64 p &&& BitVec.ofInt 64 q).toNat:Int)
theorem Q6s{t yt:TypeId}{x y:Operand}{p q:Int}(hx:ev ρ x=some (.int .u64 p))(hy:ev ρ y=some (.int .u64 q)):Qv P n ρ Γ ⟨ds,.binOp .and t x y yt,ty,pos,af,gd⟩ (.int .u64 (Qyz p q)):=fun a w ha _=>by
 simp[execOp,ha.ev hx,ha.ev hy,eqGuard,binOp,Op.intBits,IntKind.bits];rfl
theorem Qzz{q:Int}(hq:0≤q∧q≤18446744073709551615):(BitVec.ofInt 64 q).toNat=q.toNat:=by
 have e:((2 ^ 64:Nat):Int)=18446744073709551616:=by decide
 rw[BitVec.toNat_ofInt,e,Int.emod_eq_of_lt hq.1 (by omega)]
theorem Q3w(p:Int){q:Int}(hq:0≤q∧q≤18446744073709551615):0≤Qyz p q∧Qyz p q≤q:=by
 have h1:=Qzz hq
 have h2:(BitVec.ofInt 64 p &&& BitVec.ofInt 64 q).toNat≤q.toNat:=by
  rw[BitVec.toNat_and,←h1];exact Nat.and_le_right
 have h3:Qyz p q=((BitVec.ofInt 64 p &&& BitVec.ofInt 64 q).toNat:Int):=Ji (Rt (by omega) (by omega));rw[h3];omega
def Zay(bs:ByteArray):Bool:=(List.range 256).all fun i=>match bs[i]? with
 | some b=>b.toNat==bitsLen i
 | none=>false
theorem Qoc{t:TypeId}{x y:Operand}{bs:ByteArray}{ky:IntKind}{z:Int}(i:Nat)(ht:P.underlying t=some .string)(hx:ev ρ x=some (.string bs))(hb:Zay bs=true)(hy:ev ρ y=some (.int ky z))(hz:z=((i:Nat):Int))(hi:i<256):Qv P n ρ Γ ⟨ds,.index t x y,ty,pos,af,gd⟩ (.int .u8 ((bitsLen i:Nat):Int)):=fun a w ha _=>by
 subst hz;have h:=List.all_eq_true.1 hb i (List.mem_range.2 hi);cases e:bs[i]? with
 | none=>rw[e]at h;cases h
 | some b=>
  rw[e]at h;have h:b.toNat=bitsLen i:=by simpa using h
  simp[execOp,ha.ev hx,ha.ev hy,Instr.index,asIntOf,run_underlying ht,e,h]
end
theorem Qj3{x:Nat}(h:256≤x):bitsLen x=bitsLen (x / 256)+8:=by
 have key:∀k,bitsLen x≤k↔bitsLen (x / 256)+8≤k:=fun k=>by
  rw[bitsLen_le_iff]
  by_cases hk:k<8
  ·have h1:2 ^ k≤2 ^ 8:=Nat.pow_le_pow_right (by omega) (by omega)
   constructor
   ·intro h2;omega
   ·intro h2;omega
  ·obtain⟨m,rfl⟩:∃m,k=m+8:=⟨k-8,by omega⟩;have h1:=bitsLen_le_iff (x / 256) m;have h2:x / 256<2 ^ m↔x<2 ^ (m+8):=by rw[Nat.div_lt_iff_lt_mul (by omega),Nat.pow_add]
   rw[←h2,←h1];omega
 have h1:=(key _).1 (Nat.le_refl _);have h2:=(key _).2 (Nat.le_refl _);omega
theorem Q37(x:Nat)(hx:x<65536):Spec Tryz.prog 166 [.int .u64 (x:Int)] [] fun Γ v Θ=>v=.int .i64 (bitsLen x:Nat)∧Θ=Γ:=by
 refine Zbd Tryz.func166 rfl Tryz.ntmps166 fun w0 Γ=>Zsh ?_;have hle:∀i,i<256→bitsLen i≤8:=fun i hi=>(bitsLen_le_iff i 8).2 hi;refine ZY 8 (ZY 2 ?_)
 refine Zj ef (fun h1=>?_) (fun h1=>?_)
 ·omega
 ·refine ZY 7 ?_
  refine Zj ef (fun h2=>?_) (fun h2=>?_)
  ·omega
  ·refine ZY 7 ?_
   refine Zj ef (fun h3=>?_) (fun h3=>?_)
   ·have e3:((x:Int) / 2 ^ 8)=((x / 256:Nat):Int):=by omega
    have h25:=hle (x / 256) (by omega);have Xi:(0:Int)+8+(bitsLen (x / 256):Nat)=(bitsLen x:Nat):=by rw[Qj3 (x:=x) (by omega)];omega
    refine ZY 3 (Zv (Qn7 8 rfl rfl rfl rfl) (ZY 4 (Zv (Za ef ef) (ZY 6 ?_))));refine Zv (Xw Tryz.it5.h (by rw[Tryz.underlying225];rfl) rfl (Q7f (by omega) (by omega))) (Zv (Qoc _ Tryz.underlying9 rfl (by kernel_rfl) rfl e3 (by omega)) ?_);refine Zv (Xw Tryz.it3.h (by rw[Tryz.underlying5];rfl) rfl (Y0 (by omega) (by omega))) (Zv (Za ef ef) (ZY 3 ?_));exact Zf ef Zq (⟨by simp only[X2];rw[Xi],rfl⟩)
   ·have e3:(x:Int)=((x:Nat):Int):=rfl;have h25:=hle x (by omega);have Xi:(0:Int)+(bitsLen x:Nat)=(bitsLen x:Nat):=by omega
    refine ZY 5 ?_;refine Zv (Xw Tryz.it5.h (by rw[Tryz.underlying225];rfl) rfl (Q7f (by omega) (by omega))) (Zv (Qoc _ Tryz.underlying9 rfl (by kernel_rfl) rfl e3 (by omega)) ?_);refine Zv (Xw Tryz.it3.h (by rw[Tryz.underlying5];rfl) rfl (Y0 (by omega) (by omega))) (Zv (Za ef ef) (ZY 3 ?_));exact Zf ef Zq (⟨by simp only[X2];rw[Xi],rfl⟩)
theorem Q5x(x:Nat)(hx:x<65536):Spec Tryz.prog 138 [.int .u64 (x:Int)] [] fun Γ v Θ=>v=.int .i64 (bitsLen x:Nat)∧Θ=Γ:=by
 refine Zbd Tryz.func138 rfl Tryz.ntmps138 fun w0 Γ=>Zsh (ZY 5 (ZF ef (ZY 4 (Zp (Zcp Ze (Q37 x hx) (ZY 3 ?_))))));exact Zf ef Zq (⟨rfl,rfl⟩)
theorem Qq2(x:Nat)(Ta:0<x)(hx:x<65536):Spec Tryz.prog 188 [.int .i64 (x:Int)] [] fun Γ v Θ=>∃p:Int,(x<p∧p≤2*x)∧v=.int .u64 p∧Θ=Γ:=by
 refine Zbd Tryz.func188 rfl Tryz.ntmps188 fun w0 Γ=>Zsh ?_;have h1:=lt_two_pow_bitsLen x;have h2:=two_pow_bitsLen_le Ta;have hb:bitsLen x≤16:=(bitsLen_le_iff x 16).2 (by omega);have e2:((1:Int)*2 ^ bitsLen x)=((2 ^ bitsLen x:Nat):Int):=by rw[Int.one_mul];norm_cast
 have hw:IntKind.u64.wrap ((1:Int)*2 ^ bitsLen x)=((2 ^ bitsLen x:Nat):Int):=by rw[e2];exact Ji (Rt (by omega) (by omega))
 refine ZY 7 ?_;refine Zv (Xw Tryz.Q4s.h (by rw[Tryz.underlying3];rfl) rfl (Rt (by omega) (by omega))) (Zp (Zcp Ze (Q5x x hx) (Zv (Qli (bitsLen x) rfl rfl rfl (Nat.ble_eq_true_of_le (Nat.le_trans hb (by decide)))) (ZY 3 ?_))));exact Zf ef Zq (⟨_,⟨by rw[hw];omega,by rw[hw];omega⟩,rfl,rfl⟩)
theorem Qp5(b:Nat)(r:Int):Spec Tryz.prog 189 [.pointer (some ⟨b,0,none⟩)] [blk b 270 #[.int .u64 r]] fun Γ v Θ=>∃r',v=.int .u64 r'∧Θ=blk b 270 #[.int .u64 r']::Γ:=by
 refine Zbd Tryz.func189 rfl Tryz.ntmps189 fun w0 Γ=>Zsh (ZY 5 ?_);refine Zd ([blk b 270 #[.int .u64 r]]) [9] (Zra 0 9) (ZY 6 ?_);refine Zw ef (Qli 13 rfl rfl rfl rfl) ?_;refine Zw ef (Qlh rfl rfl) (Zy ?_);refine Z1 (i:=9) ef ef ?_;generalize Qzr r (IntKind.u64.wrap (r*2 ^ 13))=r1
 refine(S.store (cs':=[_]) Eo.h rfl rfl rfl rfl rfl ?_);refine ZL ([]) [] ?_;refine ZD (Zy ?_);refine Zd ([blk b 270 #[.int .u64 r1]]) [9] (Zra 0 9) (ZY 6 ?_);refine Zw ef (Qn7 7 rfl rfl rfl rfl) ?_;refine Zw ef (Qlh rfl rfl) (Zy ?_);refine Z1 (i:=9) ef ef ?_;generalize Qzr r1 (r1 / 2 ^ 7)=r2
 refine(S.store (cs':=[_]) Eo.h rfl rfl rfl rfl rfl ?_);refine ZL ([]) [] ?_;refine ZD (Zy ?_);refine Zd ([blk b 270 #[.int .u64 r2]]) [9] (Zra 0 9) (ZY 6 ?_);refine Zw ef (Qli 17 rfl rfl rfl rfl) ?_;refine Zw ef (Qlh rfl rfl) (Zy ?_);refine Z1 (i:=9) ef ef ?_;generalize Qzr r2 (IntKind.u64.wrap (r2*2 ^ 17))=r3
 refine(S.store (cs':=[_]) Eo.h rfl rfl rfl rfl rfl ?_);refine ZL ([]) [] ?_;refine ZD (ZY 8 ?_);exact Zf ef Zq (⟨_,rfl,rfl⟩)
theorem Q3u(s:SV)(d:Array Int)(a b:Nat)(hab:a+12<b)(hb:b≤d.size)(G3:d.size≤65535)(Uj:s.n=d.size):Spec Tryz.prog 158 [s.v,.int .i64 (a:Int),.int .i64 (b:Int)] [own s 31 1 (uA d)] fun Γ _ Θ=>∃e,PermIn a b d e∧Θ=own s 31 1 (uA e)::Γ:=by
 refine Zbd Tryz.func158 rfl Tryz.ntmps158 fun w0 Γ=>Zsh ?_;refine S.Qp s (by omega) fun sb so Q4 _ _ _=>?_;obtain⟨l,hl⟩:∃l:Nat,(l:Int)=(b:Int)-a:=⟨b-a,by omega⟩;refine ZY 4 (Zv (Zm ef ef) (ZY 7 ?_))
 refine Zj ef (fun h1=>?_) (fun h1=>?_)
 ·refine ZY 3 ?_;rw[←hl];refine Zv (Xw Tryz.Za2.h (by rw[Tryz.underlying3];rfl) rfl (Rt (by omega) (by omega))) (Zp (S.alloc Tryz.Zeb.h rfl ?_));intro b7;refine ZY 5 (Zp (Zc1 Ze (Qq2 l (by omega) (by omega)) ?_));rintro v Θ ⟨p,hp,rfl,rfl⟩;refine ZY 6 ?_;refine Zv (Qap rfl rfl (⟨by omega,by omega⟩) (Y0 (by omega) (by omega))) (Zv (Qdr rfl rfl (Y0 (by omega) (by omega))) (Zv (Za ef ef) (Zv (Zm ef ef) (ZY 3 ?_))));refine Zl (fun q ρ' Γ'=>∃(x:Nat) (zx:Int) (r:Int) (e:Array Int),q=a+l-x∧zx=x∧a≤x∧x≤a+l / 4*2+2∧e.size=d.size∧PermIn a b d e∧ρ'=[(0,s.v),(1,.int .i64 (a:Int)),(6,.int .i64 (l:Int)),(7,.pointer (some ⟨b7,0,none⟩)),(8,.int .u64 p),(9,.int .i64 zx)]∧Γ'=own s 31 1 (uA e)::blk b7 270 #[.int .u64 r]::Γ) (m:=_) (⟨a+l / 4*2-1,(a:Int)+(l:Int) / 4*2-1,(l:Int),d,rfl,by omega,by omega,by omega,rfl,permIn_refl _ _ _,rfl,rfl⟩) ?_;rintro q ρ' Γ' ⟨x,zx,r,e,hq,hzx,hax,Mu,hes,Tb,rfl,rfl⟩;refine ZY 6 ?_;refine Zv (Qap rfl rfl (⟨by omega,by omega⟩) (Y0 (by omega) (by omega))) (Zv (Qdr rfl rfl (Y0 (by omega) (by omega))) (Zv (Za ef ef) (Zv (Za ef ef) (ZY 2 ?_))))
  refine Zj ef (fun h2=>?_) (fun h2=>?_)
  ·refine ZY 5 (Zp (Zc1 Ze (Qp5 b7 r) ?_));rintro v Θ ⟨r2,rfl,rfl⟩;refine Zy (Zv (Qdq rfl rfl (Rt (by omega) (by omega))) (Zv (Q6s rfl rfl) ?_));obtain⟨o,ho⟩:∃o,o=Qyz r2 (p-1):=⟨_,rfl⟩;have hor:=Q3w r2 (q:=p-1) ⟨by omega,by omega⟩;rw[←ho]at hor ⊢;refine Zv (Xw Tryz.it3.h (by rw[Tryz.underlying215];rfl) rfl (Y0 (by omega) (by omega))) (ZY 8 (Zy ?_))
   refine Zc (fun ρ' Γ'=>∃(y:Nat) (zy:Int),zy=y∧y<l∧ρ'=[(0,s.v),(1,.int .i64 (a:Int)),(6,.int .i64 (l:Int)),(7,.pointer (some ⟨b7,0,none⟩)),(8,.int .u64 p),(9,.int .i64 zx),(10,.int .i64 zy)]∧Γ'=own s 31 1 (uA e)::blk b7 270 #[.int .u64 r2]::Γ) ?_ ?_
   ·refine Zj ef (fun h3=>?_) (fun h3=>?_)
    ·refine ZY 3 (Zv (Zm ef ef) (ZY 2 ?_));first|exact S.meet ⟨(o-l).toNat,o-l,by omega,by omega,rfl,rfl⟩ ⟨rfl,rfl,rfl,rfl,rfl,rfl,rfl,trivial⟩ Sub.Qh|exact S.meet ⟨o.toNat,o,by omega,by omega,rfl,rfl⟩ ⟨rfl,rfl,rfl,rfl,rfl,rfl,rfl,trivial⟩ Sub.Qh
    ·refine Zy ?_;first|exact S.meet ⟨(o-l).toNat,o-l,by omega,by omega,rfl,rfl⟩ ⟨rfl,rfl,rfl,rfl,rfl,rfl,rfl,trivial⟩ Sub.Qh|exact S.meet ⟨o.toNat,o,by omega,by omega,rfl,rfl⟩ ⟨rfl,rfl,rfl,rfl,rfl,rfl,rfl,trivial⟩ Sub.Qh
   ·rintro ρ' Γ' ⟨y,zy,hzy,hyl,rfl,rfl⟩;refine Zd ([own s 31 1 (uA e)]) [17] [0,1] (ZY 2 ?_);refine ZP 2 [] ef (Z8 rfl) ef ?_;refine ZP 3 [] ef (Z8 rfl) ef ?_;refine ZP 4 [] ef (Z8 rfl) ef ?_;refine ZP 5 (Zra 6 11) ef (Fc rfl rfl (Y0 (by omega) (by omega))) ef (ZY 3 ?_);refine Zw ef (Za ef ef) ?_;refine Zw ef (Zx (a+y) ef (Q4) ef (by omega) ((by omega))) ?_;refine Zw ef (Zo (s) (a+y) ef (Q4) (Zh (by omega))) (ZY 2 ?_);refine Zw ef (Zx (x) ef (Q4) ef (by omega) (hzx)) ?_;refine Zw ef (Zo (s) (x) ef (Q4) (Zh (by omega))) ?_;refine Zw ef (Zx (x) ef (Q4) ef (by omega) (hzx)) ?_;refine Z1 (i:=17) ef ef ?_;refine(S.Yb (s) (x) Eo.h rfl rfl rfl Q4 (by first|rfl|exact Nat.add_assoc _ _ _|omega) (by rw[Xv];omega) (Xu _ _ _) ?_);refine ZL ([]) [18] ?_;refine Zw ef (Zx (a+y) ef (Q4) ef (by omega) ((by omega))) ?_;refine Z1 (i:=19) ef ef ?_;refine(S.Yb (s) (a+y) Eo.h rfl rfl rfl Q4 (by first|rfl|exact Nat.add_assoc _ _ _|omega) (by rw[Xv,Array.size_setIfInBounds];omega) (show _=uA (Go.Sort.swp e (x) (a+y)) from Xu _ _ _) ?_);refine Zk [] ?_;refine ZD (ZY 2 (Zv (Za ef ef) (ZY 2 ?_)));exact ZX (q-1) (⟨x+1,zx+1,r2,swp e x (a+y),by omega,by omega,by omega,by omega,by rw[Hr,hes],PermIn.Hr (a:=a) (b:=b) (d:=d) (e:=e) Tb (by omega) (by omega) (by omega) (by omega) hb,rfl,rfl⟩) (by omega)
  ·refine Zy ?_;exact Zfn ef Zq (⟨e,Tb,rfl⟩)
 ·omega
open Go.Sort
section
variable {e:Array Int}{a b i j:Nat}
theorem scanSorted_stop(h:¬(i<b∧ltInt e[i]! e[i-1]! = false)):scanSorted ltInt e b i=i:=by
 rw[scanSorted,if_neg]
 simpa using h
theorem R9(h:i<b)(h2:ltInt e[i]! e[i-1]! = false):scanSorted ltInt e b i=scanSorted ltInt e b (i+1):=by
 conv=>lhs;rw[scanSorted,if_pos (by rw[h2,decide_eq_true h];rfl)]
theorem shiftDown_stop(h:¬(1≤j∧ltInt e[j]! e[j-1]! = true)):shiftDown ltInt j e=e:=by
 cases j with
 | zero=>rfl
 | succ j=>
  rw[shiftDown,if_pos];simp only[Nat.add_sub_cancel]at h;cases hl:ltInt e[j+1]! e[j]! with
  | false=>rfl
  | true=>exact absurd ⟨by omega,hl⟩ h
theorem T9(h:1≤j)(h2:ltInt e[j]! e[j-1]! = true):shiftDown ltInt j e=shiftDown ltInt (j-1) (swp e j (j-1)):=by
 cases j with
 | zero=>omega
 | succ j=>
  simp only[Nat.add_sub_cancel]at h2 ⊢;rw[shiftDown,if_neg (by rw[h2];simp)]
theorem shiftUp_stop(h:¬(j<b∧ltInt e[j]! e[j-1]! = true)):shiftUp ltInt b j e=e:=by
 rw[shiftUp]
 by_cases h1:j<b
 ·rw[if_pos h1,if_pos];cases hl:ltInt e[j]! e[j-1]! with
  | false=>rfl
  | true=>exact absurd ⟨h1,hl⟩ h
 ·rw[if_neg h1]
theorem Qfc(h:j<b)(h2:ltInt e[j]! e[j-1]! = true):shiftUp ltInt b j e=shiftUp ltInt b (j+1) (swp e j (j-1)):=by
 conv=>lhs;rw[shiftUp,if_pos h,if_neg (by rw[h2];simp)]
theorem Jc{p:Int→Bool}(h:¬(i≤j∧p e[i]! = true)):scanUp p e j i=i:=by
 rw[scanUp,if_neg]
 simpa using h
theorem Cj{p:Int→Bool}(h:i≤j)(h2:p e[i]! = true):scanUp p e j i=scanUp p e j (i+1):=by
 conv=>lhs;rw[scanUp,if_pos (by rw[h2,decide_eq_true h];rfl)]
theorem Uo{p:Int→Bool}(h:¬(i≤j∧p e[j]! = true)):scanDown p e i j=j:=by
 cases j with
 | zero=>rfl
 | succ j=>
  rw[scanDown,if_neg]
  simpa using h
theorem Fs{p:Int→Bool}(h1:1≤j)(h:i≤j)(h2:p e[j]! = true):scanDown p e i j=scanDown p e i (j-1):=by
 cases j with
 | zero=>omega
 | succ j=>
  simp only[Nat.add_sub_cancel];rw[scanDown,if_pos (by rw[h2,decide_eq_true h];rfl)]
theorem A1{p q:Int→Bool}(hq:∀x,q x=!p x)(h1:1≤i)(hij:i≤j+1):i≤scanUp p e j i∧scanUp p e j i≤j+1∧scanDown q e (scanUp p e j i) j≤j∧scanUp p e j i≤scanDown q e (scanUp p e j i) j+1∧(¬scanUp p e j i > scanDown q e (scanUp p e j i) j→scanUp p e j i<scanDown q e (scanUp p e j i) j):=by
 obtain⟨a1,a2,a3,a4,_,_,a7⟩:=round_facts p q hq e (i-1) (j+1) i j (by omega) hij (fun t h1 h2=>by omega) (fun t h1 h2=>by omega);exact⟨a1,a2,a3,a4,fun h=>(a7 h).2.2⟩
end
theorem Qfv(s:SV)(d:Array Int)(a b:Nat)(hab:a<b)(hb:b≤d.size)(G3:d.size≤65535)(Uj:s.n=d.size):Spec Tryz.prog 161 [s.v,.int .i64 (a:Int),.int .i64 (b:Int)] [own s 31 1 (uA d)] fun Γ v Θ=>v=.bool (partialInsertionSort ltInt d a b).2∧Θ=own s 31 1 (uA (partialInsertionSort ltInt d a b).1)::Γ:=by
 refine Zbd Tryz.func161 rfl Tryz.ntmps161 fun w0 Γ=>Zsh ?_;refine S.Qp s (by omega) fun sb so Q4 _ _ _=>(ZY 7 (Zv (Za ef ef) (ZY 8 ?_)));refine Zl (fun q ρ' Γ'=>∃(k i:Nat) (e:Array Int),q=5-k∧k≤5∧a<i∧i≤b∧e.size=d.size∧partialIns ltInt a b (5-k) i e=partialInsertionSort ltInt d a b∧ρ'=[(0,s.v),(1,.int .i64 (a:Int)),(2,.int .i64 (b:Int)),(7,.int .i64 (i:Int)),(8,.int .i64 (k:Int))]∧Γ'=own s 31 1 (uA e)::Γ) (m:=_) (⟨0,a+1,d,rfl,by omega,by omega,by omega,rfl,rfl,rfl,rfl⟩) ?_;rintro q ρ' Γ' ⟨k,i,e,hq,hk,hai,hib,hes,hps,rfl,rfl⟩;refine ZY 6 ?_
 refine Zj ef (fun h1=>?_) (fun h1=>?_)
 ·refine ZY 2 ?_
  refine Zc (fun ρ' Γ'=>∃(i2:Nat) (g:Array Int),a<i2∧i2≤b∧g.size=d.size∧partialIns ltInt a b (5-(k+1)) i2 g=partialInsertionSort ltInt d a b∧ρ'=[(0,s.v),(1,.int .i64 (a:Int)),(2,.int .i64 (b:Int)),(7,.int .i64 (i2:Int)),(8,.int .i64 (k:Int))]∧Γ'=own s 31 1 (uA g)::Γ) ?_ ?_
  ·refine ZY 2 ?_
   refine Zc (fun ρ' Γ'=>∃i2:Nat,i2=scanSorted ltInt e b i∧a<i2∧i2≤b∧ρ'=[(0,s.v),(1,.int .i64 (a:Int)),(2,.int .i64 (b:Int)),(7,.int .i64 (i2:Int)),(8,.int .i64 (k:Int))]∧Γ'=own s 31 1 (uA e)::Γ) ?_ ?_
   ·refine Zy ?_;refine Zl (fun q2 ρ' Γ'=>∃i':Nat,q2=b-i'∧a<i'∧i'≤b∧scanSorted ltInt e b i'=scanSorted ltInt e b i∧ρ'=[(0,s.v),(1,.int .i64 (a:Int)),(2,.int .i64 (b:Int)),(7,.int .i64 (i':Int)),(8,.int .i64 (k:Int))]∧Γ'=own s 31 1 (uA e)::Γ) (m:=_) (⟨i,rfl,by omega,by omega,rfl,rfl,rfl⟩) ?_;rintro q2 ρ' Γ' ⟨i',hq2,hai',hib',Pv,rfl,rfl⟩;refine ZY 2 ?_;refine Zd ([own s 31 1 (uA e)]) [] (Zra 0 4) (ZY 4 ?_)
    refine Zb 20 ef (fun hg5_3=>?_) (fun hg5_3=>?_)
    ·refine Zr (Zra 4 9) (ZY 2 ?_);refine Zwg ef ef ef ef (Zx (i') ef (Q4) ef (by omega)) ?_;refine Zwg ef ef ef ef (Zo (s) (i') ef (Q4) (Zh (by omega))) (ZY 2 ?_);refine Zwg ef ef ef ef (Zm ef ef) ?_;refine Zwg ef ef ef ef (Zx (i' - 1) ef (Q4) ef (by omega) ((by omega))) ?_;refine Zwg ef ef ef ef (Zo (s) (i' - 1) ef (Q4) (Zh (by omega))) ?_;refine Z1g (i:=13) ef ef ef ef ef (rfl) ?_;refine  (Zcp Ze (Kh (e[i']!) (e[i' - 1]!)) ?_);refine Zk [14,15] (ZY 2 ?_);refine ZD ?_
     refine Zi ef (fun h2=>?_) (fun h2=>?_)
     ·have Gp:scanSorted ltInt e b i'=scanSorted ltInt e b (i'+1):=R9 (by omega) (by simpa using h2);refine ZY 4 (Zv (Za ef ef) (ZY 2 ?_));exact ZX (q2-1) (⟨i'+1,by omega,by omega,by omega,Gp.symm.trans Pv,rfl,rfl⟩) (by omega)
     ·have Xf:scanSorted ltInt e b i'=i':=scanSorted_stop (fun h=>by rw[h.2]at h2;cases h2);refine Zy ?_;exact ZM ⟨i',Xf.symm.trans Pv,by omega,by omega,rfl,rfl⟩
    ·have Xf:scanSorted ltInt e b i'=i':=scanSorted_stop (fun h=>hg5_3 (by omega));refine Zr (Zra 4 12) (ZY 8 (ZY 4 ?_));refine ZD (ZY 2 ?_);exact ZM ⟨i',Xf.symm.trans Pv,by omega,by omega,rfl,rfl⟩
   ·rintro ρ' Γ' ⟨i2,D6,Zgu,Zgg,rfl,rfl⟩;have D4:(if i2=b then (e,true) else if b-a<50 then (e,false) else partialIns ltInt a b (5-(k+1)) i2 (fixUp ltInt b i2 (fixDown ltInt a i2 (swp e i2 (i2-1)))))=partialInsertionSort ltInt d a b:=by rw[←hps,show 5-k=(5-(k+1))+1 by omega,partialIns_succ,←D6]
    refine ZY 7 ?_
    refine Zj ef (fun h3=>?_) (fun h3=>?_)
    ·rw[if_pos (by omega)]at D4;refine ZY 5 ?_;exact Zf ef Zq (⟨by rw[←D4];first|done|rfl,by rw[←D4]⟩)
    ·refine ZY 6 (Zv (Zm ef ef) (ZY 2 ?_))
     refine Zj ef (fun h4=>?_) (fun h4=>?_)
     ·rw[if_neg (by omega),if_pos (by omega)]at D4;refine ZY 5 ?_;exact Zf ef Zq (⟨by rw[←D4];first|done|rfl,by rw[←D4]⟩)
     ·rw[if_neg (by omega),if_neg (by omega)]at D4;refine ZY 2 ?_;refine Zd ([own s 31 1 (uA e)]) [15] [0,1] (ZY 2 ?_);refine ZP 2 [] ef (Z8 rfl) ef ?_;refine ZP 3 [] ef (Z8 rfl) ef ?_;refine ZP 4 (Zra 5 10) ef (Qdq rfl rfl (Y0 (by omega) (by omega))) ef (ZY 2 ?_);refine Zw ef (Zm ef ef) ?_;refine Zw ef (Zx (i2-1) ef (Q4) ef (by omega) ((by omega))) ?_;refine Zw ef (Zo (s) (i2-1) ef (Q4) (Zh (by omega))) (ZY 2 ?_);refine Zw ef (Zx (i2) ef (Q4) ef (by omega)) ?_;refine Zw ef (Zo (s) (i2) ef (Q4) (Zh (by omega))) ?_;refine Zw ef (Zx (i2) ef (Q4) ef (by omega)) ?_;refine Z1 (i:=15) ef ef ?_;refine(S.Yb (s) (i2) Eo.h rfl rfl rfl Q4 (by first|rfl|exact Nat.add_assoc _ _ _|omega) (by rw[Xv];omega) (Xu _ _ _) ?_);refine ZL ([]) [16] ?_;refine Zw ef (Zx (i2-1) ef (Q4) ef (by omega) ((by omega))) ?_;refine Z1 (i:=17) ef ef ?_;refine(S.Yb (s) (i2-1) Eo.h rfl rfl rfl Q4 (by first|rfl|exact Nat.add_assoc _ _ _|omega) (by rw[Xv,Array.size_setIfInBounds];omega) (show _=uA (Go.Sort.swp e (i2) (i2-1)) from Xu _ _ _) ?_);refine Zk [] ?_;refine ZD (ZY 5 (Zv (Zm ef ef) (ZY 2 ?_)))
      refine Zc (fun ρ' Γ'=>∃f:Array Int,f.size=d.size∧f=fixDown ltInt a i2 (swp e i2 (i2-1))∧ρ'=[(0,s.v),(1,.int .i64 (a:Int)),(2,.int .i64 (b:Int)),(7,.int .i64 (i2:Int)),(8,.int .i64 (k:Int))]∧Γ'=own s 31 1 (uA f)::Γ) ?_ ?_
      ·refine Zj ef (fun h5=>?_) (fun h5=>?_)
       ·have hfd:fixDown ltInt a i2 (swp e i2 (i2-1))=shiftDown ltInt (i2-1) (swp e i2 (i2-1)):=if_pos (by omega);refine ZY 3 (Zv (Zm ef ef) (ZY 3 ?_));refine Zl (fun q3 ρ' Γ'=>∃(j:Nat) (z:Int) (f:Array Int),q3=j∧z=j∧j<i2∧f.size=d.size∧shiftDown ltInt j f=shiftDown ltInt (i2-1) (swp e i2 (i2-1))∧ρ'=[(0,s.v),(1,.int .i64 (a:Int)),(2,.int .i64 (b:Int)),(7,.int .i64 (i2:Int)),(8,.int .i64 (k:Int)),(9,.int .i64 z)]∧Γ'=own s 31 1 (uA f)::Γ) (m:=_) (⟨i2-1,(i2:Int)-1,swp e i2 (i2-1),rfl,by omega,by omega,by rw[Hr,hes],rfl,rfl,rfl⟩) ?_;rintro q3 ρ' Γ' ⟨j,z,f,hq3,hz,Tc,Sj,hsd,rfl,rfl⟩;refine ZY 6 ?_
        refine Zj ef (fun h6=>?_) (fun h6=>?_)
        ·refine ZY 5 ?_;refine Zd ([own s 31 1 (uA f)]) [] (Zra 0 9) (ZY 2 ?_);refine Zw ef (Zx (j) ef (Q4) ef (by omega) (hz)) ?_;refine Zw ef (Zo (s) (j) ef (Q4) (Zh (by omega))) (ZY 2 ?_);refine Zw ef (Zm ef ef) ?_;refine Zw ef (Zx (j-1) ef (Q4) ef (by omega) ((by omega))) ?_;refine Zw ef (Zo (s) (j-1) ef (Q4) (Zh (by omega))) ?_;refine Z1 (i:=9) ef ef ?_;refine  (Zcp Ze (Kh (f[j]!) (f[j-1]!)) ?_);refine Zk [10] (Zy ?_);refine ZD ?_
         refine Zi ef (fun h7=>?_) (fun h7=>?_)
         ·have Xf:shiftDown ltInt j f=f:=shiftDown_stop (fun h=>by rw[h.2]at h7;cases h7);refine Zy ?_;first|exact S.meet ⟨f,Sj,(Xf.symm.trans hsd).trans hfd.symm,rfl,rfl⟩ ⟨rfl,rfl,rfl,rfl,rfl,trivial⟩ Sub.Qh|exact S.meet ⟨swp e i2 (i2-1),by rw[Hr,hes],hfd.symm,rfl,rfl⟩ ⟨rfl,rfl,rfl,rfl,rfl,trivial⟩ Sub.Qh
         ·have Gp:shiftDown ltInt j f=shiftDown ltInt (j-1) (swp f j (j-1)):=T9 (by omega) (by simpa using h7);refine Zy ?_;refine Zd ([own s 31 1 (uA f)]) [15] [0,1] (ZY 2 ?_);refine ZP 2 [] ef (Z8 rfl) ef ?_;refine ZP 3 [] ef (Z8 rfl) ef ?_;refine ZP 4 (Zra 5 10) ef (Qdq rfl rfl (Y0 (by omega) (by omega))) ef (ZY 2 ?_);refine Zw ef (Zm ef ef) ?_;refine Zw ef (Zx (j-1) ef (Q4) ef (by omega) ((by omega))) ?_;refine Zw ef (Zo (s) (j-1) ef (Q4) (Zh (by omega))) (ZY 2 ?_);refine Zw ef (Zx (j) ef (Q4) ef (by omega) (hz)) ?_;refine Zw ef (Zo (s) (j) ef (Q4) (Zh (by omega))) ?_;refine Zw ef (Zx (j) ef (Q4) ef (by omega) (hz)) ?_;refine Z1 (i:=15) ef ef ?_;refine(S.Yb (s) (j) Eo.h rfl rfl rfl Q4 (by first|rfl|exact Nat.add_assoc _ _ _|omega) (by rw[Xv];omega) (Xu _ _ _) ?_);refine ZL ([]) [16] ?_;refine Zw ef (Zx (j-1) ef (Q4) ef (by omega) ((by omega))) ?_;refine Z1 (i:=17) ef ef ?_;refine(S.Yb (s) (j-1) Eo.h rfl rfl rfl Q4 (by first|rfl|exact Nat.add_assoc _ _ _|omega) (by rw[Xv,Array.size_setIfInBounds];omega) (show _=uA (Go.Sort.swp f (j) (j-1)) from Xu _ _ _) ?_);refine Zk [] ?_;refine ZD (ZY 2 (Zv (Zm ef ef) (ZY 2 ?_)));exact ZX (j-1) (⟨j-1,z-1,swp f j (j-1),rfl,by omega,by omega,by rw[Hr,Sj],Gp.symm.trans hsd,rfl,rfl⟩) (by omega)
        ·have Xf:shiftDown ltInt j f=f:=shiftDown_stop (fun h=>by omega);refine Zy ?_;first|exact S.meet ⟨f,Sj,(Xf.symm.trans hsd).trans hfd.symm,rfl,rfl⟩ ⟨rfl,rfl,rfl,rfl,rfl,trivial⟩ Sub.Qh|exact S.meet ⟨swp e i2 (i2-1),by rw[Hr,hes],hfd.symm,rfl,rfl⟩ ⟨rfl,rfl,rfl,rfl,rfl,trivial⟩ Sub.Qh
       ·have hfd:fixDown ltInt a i2 (swp e i2 (i2-1))=swp e i2 (i2-1):=if_neg (by omega);refine Zy ?_;first|exact S.meet ⟨f,Sj,(Xf.symm.trans hsd).trans hfd.symm,rfl,rfl⟩ ⟨rfl,rfl,rfl,rfl,rfl,trivial⟩ Sub.Qh|exact S.meet ⟨swp e i2 (i2-1),by rw[Hr,hes],hfd.symm,rfl,rfl⟩ ⟨rfl,rfl,rfl,rfl,rfl,trivial⟩ Sub.Qh
      ·rintro ρ' Γ' ⟨f,Sj,hff,rfl,rfl⟩;rw[←hff]at D4;refine ZY 4 (Zv (Zm ef ef) (ZY 2 ?_))
       refine Zj ef (fun h8=>?_) (fun h8=>?_)
       ·have hfu:fixUp ltInt b i2 f=shiftUp ltInt b (i2+1) f:=if_pos (by omega);refine ZY 3 (Zv (Za ef ef) (ZY 3 ?_));refine Zl (fun q4 ρ' Γ'=>∃(j:Nat) (g:Array Int),q4=b-j∧i2<j∧j≤b∧g.size=d.size∧shiftUp ltInt b j g=shiftUp ltInt b (i2+1) f∧ρ'=[(0,s.v),(1,.int .i64 (a:Int)),(2,.int .i64 (b:Int)),(7,.int .i64 (i2:Int)),(8,.int .i64 (k:Int)),(10,.int .i64 (j:Int))]∧Γ'=own s 31 1 (uA g)::Γ) (m:=_) (⟨i2+1,f,rfl,by omega,by omega,Sj,rfl,rfl,rfl⟩) ?_;rintro q4 ρ' Γ' ⟨j,g,hq4,hij,hjb,hgs,hsu,rfl,rfl⟩;refine ZY 7 ?_
        refine Zj ef (fun h9=>?_) (fun h9=>?_)
        ·refine ZY 5 ?_;refine Zd ([own s 31 1 (uA g)]) [] (Zra 0 9) (ZY 2 ?_);refine Zw ef (Zx (j) ef (Q4) ef (by omega)) ?_;refine Zw ef (Zo (s) (j) ef (Q4) (Zh (by omega))) (ZY 2 ?_);refine Zw ef (Zm ef ef) ?_;refine Zw ef (Zx (j-1) ef (Q4) ef (by omega) ((by omega))) ?_;refine Zw ef (Zo (s) (j-1) ef (Q4) (Zh (by omega))) ?_;refine Z1 (i:=9) ef ef ?_;refine  (Zcp Ze (Kh (g[j]!) (g[j-1]!)) ?_);refine Zk [10] (Zy ?_);refine ZD ?_
         refine Zi ef (fun h10=>?_) (fun h10=>?_)
         ·have Xf:shiftUp ltInt b j g=g:=shiftUp_stop (fun h=>by rw[h.2]at h10;cases h10);refine Zy ?_;first|exact S.meet ⟨i2,g,by omega,by omega,hgs,by rw[←(Xf.symm.trans hsu).trans hfu.symm]at D4;exact D4,rfl,rfl⟩ ⟨rfl,rfl,rfl,rfl,rfl,trivial⟩ Sub.Qh|exact S.meet ⟨i2,f,by omega,by omega,Sj,D4,rfl,rfl⟩ ⟨rfl,rfl,rfl,rfl,rfl,trivial⟩ Sub.Qh
         ·have Gp:shiftUp ltInt b j g=shiftUp ltInt b (j+1) (swp g j (j-1)):=Qfc (by omega) (by simpa using h10);refine Zy ?_;refine Zd ([own s 31 1 (uA g)]) [15] [0,1] (ZY 2 ?_);refine ZP 2 [] ef (Z8 rfl) ef ?_;refine ZP 3 [] ef (Z8 rfl) ef ?_;refine ZP 4 (Zra 5 10) ef (Qdq rfl rfl (Y0 (by omega) (by omega))) ef (ZY 2 ?_);refine Zw ef (Zm ef ef) ?_;refine Zw ef (Zx (j-1) ef (Q4) ef (by omega) ((by omega))) ?_;refine Zw ef (Zo (s) (j-1) ef (Q4) (Zh (by omega))) (ZY 2 ?_);refine Zw ef (Zx (j) ef (Q4) ef (by omega)) ?_;refine Zw ef (Zo (s) (j) ef (Q4) (Zh (by omega))) ?_;refine Zw ef (Zx (j) ef (Q4) ef (by omega)) ?_;refine Z1 (i:=15) ef ef ?_;refine(S.Yb (s) (j) Eo.h rfl rfl rfl Q4 (by first|rfl|exact Nat.add_assoc _ _ _|omega) (by rw[Xv];omega) (Xu _ _ _) ?_);refine ZL ([]) [16] ?_;refine Zw ef (Zx (j-1) ef (Q4) ef (by omega) ((by omega))) ?_;refine Z1 (i:=17) ef ef ?_;refine(S.Yb (s) (j-1) Eo.h rfl rfl rfl Q4 (by first|rfl|exact Nat.add_assoc _ _ _|omega) (by rw[Xv,Array.size_setIfInBounds];omega) (show _=uA (Go.Sort.swp g (j) (j-1)) from Xu _ _ _) ?_);refine Zk [] ?_;refine ZD (ZY 2 (Zv (Za ef ef) (ZY 2 ?_)));exact ZX (q4-1) (⟨j+1,swp g j (j-1),by omega,by omega,by omega,by rw[Hr,hgs],Gp.symm.trans hsu,rfl,rfl⟩) (by omega)
        ·have Xf:shiftUp ltInt b j g=g:=shiftUp_stop (fun h=>by omega);refine Zy ?_;first|exact S.meet ⟨i2,g,by omega,by omega,hgs,by rw[←(Xf.symm.trans hsu).trans hfu.symm]at D4;exact D4,rfl,rfl⟩ ⟨rfl,rfl,rfl,rfl,rfl,trivial⟩ Sub.Qh|exact S.meet ⟨i2,f,by omega,by omega,Sj,D4,rfl,rfl⟩ ⟨rfl,rfl,rfl,rfl,rfl,trivial⟩ Sub.Qh
       ·have hfu:fixUp ltInt b i2 f=f:=if_neg (by omega);rw[hfu]at D4;refine Zy ?_;first|exact S.meet ⟨i2,g,by omega,by omega,hgs,by rw[←(Xf.symm.trans hsu).trans hfu.symm]at D4;exact D4,rfl,rfl⟩ ⟨rfl,rfl,rfl,rfl,rfl,trivial⟩ Sub.Qh|exact S.meet ⟨i2,f,by omega,by omega,Sj,D4,rfl,rfl⟩ ⟨rfl,rfl,rfl,rfl,rfl,trivial⟩ Sub.Qh
  ·rintro ρ' Γ' ⟨i2,g,Zgu,Zgg,hgs,Zfr,rfl,rfl⟩;refine ZY 2 (Zv (Za ef ef) (ZY 2 ?_));exact ZX (q-1) (⟨k+1,i2,g,by omega,by omega,by omega,by omega,hgs,Zfr,rfl,rfl⟩) (by omega)
 ·rw[show 5-k=0 by omega]at hps;have hps:(e,false)=partialInsertionSort ltInt d a b:=hps;refine ZY 6 ?_;exact Zf ef Zq (⟨by rw[←hps];first|done|rfl,by rw[←hps]⟩)
theorem Qij(s:SV)(d:Array Int)(a b pv:Nat)(hap:a≤pv)(hpb:pv<b)(hb:b≤d.size)(G3:d.size≤65535)(Uj:s.n=d.size):Spec Tryz.prog 164 [s.v,.int .i64 (a:Int),.int .i64 (b:Int),.int .i64 (pv:Int)] [own s 31 1 (uA d)] fun Γ v Θ=>v=.tuple #[.int .i64 ((partition ltInt d a b pv).1:Nat),.bool (partition ltInt d a b pv).2.1]∧Θ=own s 31 1 (uA (partition ltInt d a b pv).2.2)::Γ:=by
 refine Zbd Tryz.func164 rfl Tryz.ntmps164 fun w0 Γ=>Zsh ?_;refine S.Qp s (by omega) fun sb so Q4 _ _ _=>?_;obtain⟨e,he⟩:∃e,e=swp d a pv:=⟨_,rfl⟩;have hes:e.size=d.size:=by rw[he,Hr]
 obtain⟨p,hp⟩:∃p:Array Int→Int→Bool,p=fun f x=>ltInt x f[a]! := ⟨_,rfl⟩;obtain⟨q,hq⟩:∃q:Array Int→Int→Bool,q=fun f x=>!ltInt x f[a]! := ⟨_,rfl⟩;have hpq:∀f x,q f x=!p f x:=fun f x=>by rw[hp,hq]
 have hpv:∀f x,ltInt x f[a]! = true→p f x=true:=fun f x h=>by rw[hp];exact h
 have hpn:∀f x,p f x=true→ltInt x f[a]! = true:=fun f x h=>by rw[hp]at h;exact h
 have hqv:∀f x,(!ltInt x f[a]!)=true→q f x=true:=fun f x h=>by rw[hq];exact h
 have hqn:∀f x,q f x=true→(!ltInt x f[a]!)=true:=fun f x h=>by rw[hq]at h;exact h
 have hpt:partition ltInt d a b pv=if scanUp (p e) e (b-1) (a+1) > scanDown (q e) e (scanUp (p e) e (b-1) (a+1)) (b-1) then (scanDown (q e) e (scanUp (p e) e (b-1) (a+1)) (b-1),true,swp e (scanDown (q e) e (scanUp (p e) e (b-1) (a+1)) (b-1)) a) else
   ((partLoop ltInt a (scanUp (p e) e (b-1) (a+1)+1) (scanDown (q e) e (scanUp (p e) e (b-1) (a+1)) (b-1)-1) (swp e (scanUp (p e) e (b-1) (a+1)) (scanDown (q e) e (scanUp (p e) e (b-1) (a+1)) (b-1)))).1,false,
    swp (partLoop ltInt a (scanUp (p e) e (b-1) (a+1)+1) (scanDown (q e) e (scanUp (p e) e (b-1) (a+1)) (b-1)-1) (swp e (scanUp (p e) e (b-1) (a+1)) (scanDown (q e) e (scanUp (p e) e (b-1) (a+1)) (b-1)))).2 (partLoop ltInt a (scanUp (p e) e (b-1) (a+1)+1) (scanDown (q e) e (scanUp (p e) e (b-1) (a+1)) (b-1)-1) (swp e (scanUp (p e) e (b-1) (a+1)) (scanDown (q e) e (scanUp (p e) e (b-1) (a+1)) (b-1)))).1 a):=by
  rw[hp,hq,he];rfl
 have hpl:∀i j f,partLoop ltInt a i j f=if scanUp (p f) f j i > scanDown (q f) f (scanUp (p f) f j i) j then (scanDown (q f) f (scanUp (p f) f j i) j,f) else partLoop ltInt a (scanUp (p f) f j i+1) (scanDown (q f) f (scanUp (p f) f j i) j-1) (swp f (scanUp (p f) f j i) (scanDown (q f) f (scanUp (p f) f j i) j)):=fun i j f=>by
  rw[hp,hq];exact partLoop_eq ltInt a i j f
 clear hp hq
 refine ZY 6 ?_;refine Zd ([own s 31 1 (uA d)]) [13] [0,1] (ZY 2 ?_);refine ZP 2 [] ef (Z8 rfl) ef ?_;refine ZP 3 (Zra 4 9) ef (Z8 rfl) ef (ZY 2 ?_);refine Zw ef (Zx (pv) ef (Q4) ef (by omega)) ?_;refine Zw ef (Zo (s) (pv) ef (Q4) (Zh (by omega))) (ZY 2 ?_);refine Zw ef (Zx (a) ef (Q4) ef (by omega)) ?_;refine Zw ef (Zo (s) (a) ef (Q4) (Zh (by omega))) ?_;refine Zw ef (Zx (a) ef (Q4) ef (by omega)) ?_;refine Z1 (i:=13) ef ef ?_;refine(S.Yb (s) (a) Eo.h rfl rfl rfl Q4 (by first|rfl|exact Nat.add_assoc _ _ _|omega) (by rw[Xv];omega) (Xu _ _ _) ?_);refine ZL ([]) [14] ?_;refine Zw ef (Zx (pv) ef (Q4) ef (by omega)) ?_;refine Z1 (i:=15) ef ef ?_;refine(S.Yb (s) (pv) Eo.h rfl rfl rfl Q4 (by first|rfl|exact Nat.add_assoc _ _ _|omega) (by rw[Xv,Array.size_setIfInBounds];omega) (show _=uA (Go.Sort.swp d (a) (pv)) from Xu _ _ _) ?_);refine Zk [] ?_;refine ZD (ZY 2 ?_);rw[←he];refine Zy (Zv (Za ef ef) (Zy (Zv (Zm ef ef) (ZY 4 ?_))))
 refine Zc (fun ρ' Γ'=>∃i1:Nat,i1=scanUp (p e) e (b-1) (a+1)∧a<i1∧i1≤b∧ρ'=[(0,s.v),(1,.int .i64 (a:Int)),(10,.int .i64 (i1:Int)),(11,.int .i64 ((b:Int)-1))]∧Γ'=own s 31 1 (uA e)::Γ) ?_ ?_
 ·refine Zy ?_;refine Zl (fun r ρ' Γ'=>∃i':Nat,r=b-i'∧a<i'∧i'≤b∧scanUp (p e) e (b-1) i'=scanUp (p e) e (b-1) (a+1)∧ρ'=[(0,s.v),(1,.int .i64 (a:Int)),(10,.int .i64 (i':Int)),(11,.int .i64 ((b:Int)-1))]∧Γ'=own s 31 1 (uA e)::Γ) (m:=_) (⟨a+1,rfl,by omega,by omega,rfl,rfl,rfl⟩) ?_;rintro r ρ' Γ' ⟨i',hr,hai,hib,Pv,rfl,rfl⟩;refine ZY 2 ?_;refine Zd ([own s 31 1 (uA e)]) [] (Zra 0 4) (ZY 4 ?_)
  refine Zb 33 ef (fun hg3_3=>?_) (fun hg3_3=>?_)
  ·refine Zr (Zra 4 8) (ZY 2 ?_);refine Zwg ef ef ef ef (Zx (i') ef (Q4) ef (by omega)) ?_;refine Zwg ef ef ef ef (Zo (s) (i') ef (Q4) (Zh (by omega))) (ZY 2 ?_);refine Zwg ef ef ef ef (Zx (a) ef (Q4) ef (by omega)) ?_;refine Zwg ef ef ef ef (Zo (s) (a) ef (Q4) (Zh (by omega))) ?_;refine Z1g (i:=12) ef ef ef ef ef (rfl) ?_;refine  (Zcp Ze (Kh (e[i']!) (e[a]!)) ?_);refine Zk [13] (Zy ?_);refine ZD ?_
   refine Zi ef (fun h1=>?_) (fun h1=>?_)
   ·have Gp:scanUp (p e) e (b-1) i'=scanUp (p e) e (b-1) (i'+1):=Cj (by omega) (hpv _ _ h1);refine ZY 4 (Zv (Za ef ef) (ZY 2 ?_));exact ZX (r-1) (⟨i'+1,by omega,by omega,by omega,Gp.symm.trans Pv,rfl,rfl⟩) (by omega)
   ·have Xf:scanUp (p e) e (b-1) i'=i':=Jc (fun h=>by rw[hpn _ _ h.2]at h1;cases h1);refine Zy ?_;exact ZM ⟨i',Xf.symm.trans Pv,by omega,by omega,rfl,rfl⟩
  ·have Xf:scanUp (p e) e (b-1) i'=i':=Jc (fun h=>hg3_3 (by omega));refine Zr (Zra 4 10) (ZY 8 (ZY 2 ?_));refine ZD (ZY 2 ?_);exact ZM ⟨i',Xf.symm.trans Pv,by omega,by omega,rfl,rfl⟩
 ·rintro ρ' Γ' ⟨i1,hi1,Zk5,Zkm,rfl,rfl⟩;refine Zy ?_
  refine Zc (fun ρ' Γ'=>∃(j1:Nat) (z1:Int),z1=j1∧j1=scanDown (q e) e i1 (b-1)∧ρ'=[(0,s.v),(1,.int .i64 (a:Int)),(10,.int .i64 (i1:Int)),(11,.int .i64 z1)]∧Γ'=own s 31 1 (uA e)::Γ) ?_ ?_
  ·refine Zy ?_;refine Zl (fun r ρ' Γ'=>∃(j':Nat) (z:Int),r=j'∧z=j'∧j' < b∧scanDown (q e) e i1 j'=scanDown (q e) e i1 (b-1)∧ρ'=[(0,s.v),(1,.int .i64 (a:Int)),(10,.int .i64 (i1:Int)),(11,.int .i64 z)]∧Γ'=own s 31 1 (uA e)::Γ) (m:=_) (⟨b-1,(b:Int)-1,rfl,by omega,by omega,rfl,rfl,rfl⟩) ?_;rintro r ρ' Γ' ⟨j',z,hr,hz,hjb,Pv,rfl,rfl⟩;refine ZY 2 ?_;refine Zd ([own s 31 1 (uA e)]) [] (Zra 0 4) (ZY 4 ?_)
   refine Zb 49 ef (fun hg5_3=>?_) (fun hg5_3=>?_)
   ·refine Zr (Zra 4 8) (ZY 2 ?_);refine Zwg ef ef ef ef (Zx (j') ef (Q4) ef (by omega) (hz)) ?_;refine Zwg ef ef ef ef (Zo (s) (j') ef (Q4) (Zh (by omega))) (ZY 2 ?_);refine Zwg ef ef ef ef (Zx (a) ef (Q4) ef (by omega)) ?_;refine Zwg ef ef ef ef (Zo (s) (a) ef (Q4) (Zh (by omega))) ?_;refine Z1g (i:=12) ef ef ef ef ef (rfl) ?_;refine  (Zcp Ze (Kh (e[j']!) (e[a]!)) ?_);refine Zk [13,14] (ZY 2 ?_);refine ZD ?_
    refine Zi ef (fun h2=>?_) (fun h2=>?_)
    ·have Gp:scanDown (q e) e i1 j'=scanDown (q e) e i1 (j' - 1):=Fs (by omega) (by omega) (hqv _ _ h2);refine ZY 4 (Zv (Zm ef ef) (ZY 2 ?_));exact ZX (j' - 1) (⟨j' - 1,z-1,rfl,by omega,by omega,Gp.symm.trans Pv,rfl,rfl⟩) (by omega)
    ·have Xf:scanDown (q e) e i1 j'=j':=Uo (fun h=>by rw[hqn _ _ h.2]at h2;cases h2);refine Zy ?_;exact ZM ⟨j',z,hz,Xf.symm.trans Pv,rfl,rfl⟩
   ·have Xf:scanDown (q e) e i1 j'=j':=Uo (fun h=>hg5_3 (by omega));refine Zr (Zra 4 11) (ZY 8 (ZY 3 ?_));refine ZD (ZY 2 ?_);exact ZM ⟨j',z,hz,Xf.symm.trans Pv,rfl,rfl⟩
  ·rintro ρ' Γ' ⟨j1,z1,rfl,Dy,rfl,rfl⟩;obtain⟨f1,f2,f3,f4,f5⟩:=A1 (p:=p e) (q:=q e) (e:=e) (i:=a+1) (j:=b-1) (hpq e) (by omega) (by omega);rw[←hi1,←Dy]at f5 f4;rw[←hi1]at f1 f2;rw[←hi1,←Dy]at f3;rw[←hi1,←Dy]at hpt;refine ZY 7 ?_
   refine Zj ef (fun h3=>?_) (fun h3=>?_)
   ·rw[if_pos (by omega)]at hpt;refine Zy ?_;refine Zd ([own s 31 1 (uA e)]) [13] [0,1] (ZY 2 ?_);refine ZP 2 [] ef (Z8 rfl) ef ?_;refine ZP 3 (Zra 4 9) ef (Z8 rfl) ef (ZY 2 ?_);refine Zw ef (Zx (a) ef (Q4) ef (by omega)) ?_;refine Zw ef (Zo (s) (a) ef (Q4) (Zh (by omega))) (ZY 2 ?_);refine Zw ef (Zx (j1) ef (Q4) ef (by omega)) ?_;refine Zw ef (Zo (s) (j1) ef (Q4) (Zh (by omega))) ?_;refine Zw ef (Zx (j1) ef (Q4) ef (by omega)) ?_;refine Z1 (i:=13) ef ef ?_;refine(S.Yb (s) (j1) Eo.h rfl rfl rfl Q4 (by first|rfl|exact Nat.add_assoc _ _ _|omega) (by rw[Xv];omega) (Xu _ _ _) ?_);refine ZL ([]) [14] ?_;refine Zw ef (Zx (a) ef (Q4) ef (by omega)) ?_;refine Z1 (i:=15) ef ef ?_;refine(S.Yb (s) (a) Eo.h rfl rfl rfl Q4 (by first|rfl|exact Nat.add_assoc _ _ _|omega) (by rw[Xv,Array.size_setIfInBounds];omega) (show _=uA (Go.Sort.swp e (j1) (a)) from Xu _ _ _) ?_);refine Zk [] ?_;refine ZD (ZY 7 ?_);exact Zf ef Zq (⟨by rw[hpt];first|done|rfl,by rw[hpt]⟩)
   ·rw[if_neg (by omega)]at hpt;have f6:=f5 (by omega);refine ZY 2 ?_;refine Zd ([own s 31 1 (uA e)]) [13] [0,1] (ZY 2 ?_);refine ZP 2 [] ef (Z8 rfl) ef ?_;refine ZP 3 (Zra 4 9) ef (Z8 rfl) ef (ZY 2 ?_);refine Zw ef (Zx (j1) ef (Q4) ef (by omega)) ?_;refine Zw ef (Zo (s) (j1) ef (Q4) (Zh (by omega))) (ZY 2 ?_);refine Zw ef (Zx (i1) ef (Q4) ef (by omega)) ?_;refine Zw ef (Zo (s) (i1) ef (Q4) (Zh (by omega))) ?_;refine Zw ef (Zx (i1) ef (Q4) ef (by omega)) ?_;refine Z1 (i:=13) ef ef ?_;refine(S.Yb (s) (i1) Eo.h rfl rfl rfl Q4 (by first|rfl|exact Nat.add_assoc _ _ _|omega) (by rw[Xv];omega) (Xu _ _ _) ?_);refine ZL ([]) [14] ?_;refine Zw ef (Zx (j1) ef (Q4) ef (by omega)) ?_;refine Z1 (i:=15) ef ef ?_;refine(S.Yb (s) (j1) Eo.h rfl rfl rfl Q4 (by first|rfl|exact Nat.add_assoc _ _ _|omega) (by rw[Xv,Array.size_setIfInBounds];omega) (show _=uA (Go.Sort.swp e (i1) (j1)) from Xu _ _ _) ?_);refine Zk [] ?_;refine ZD (ZY 3 (Zv (Za ef ef) (ZY 4 ?_)));obtain⟨L,hL⟩:∃L,L=partLoop ltInt a (i1+1) (j1-1) (swp e i1 j1):=⟨_,rfl⟩;rw[←hL]at hpt;refine Zy (Zv (Zm ef ef) (ZY 4 ?_));refine Zl (fun r ρ' Γ'=>∃(i j:Nat) (z:Int) (f:Array Int),r=j+1-i∧z=j∧a<i∧i≤j+1∧j<b∧f.size=d.size∧partLoop ltInt a i j f=L∧ρ'=[(0,s.v),(1,.int .i64 (a:Int)),(10,.int .i64 (i:Int)),(11,.int .i64 z)]∧Γ'=own s 31 1 (uA f)::Γ) (m:=_) (⟨i1+1,j1-1,(j1:Int)-1,swp e i1 j1,rfl,by omega,by omega,by omega,by omega,by rw[Hr,hes],hL.symm,rfl,rfl⟩) ?_;rintro r3 ρ' Γ' ⟨i,j,z,f,hr3,hz,hai,hij,hjb,Sj,hlp,rfl,rfl⟩;obtain⟨k1,k2,k3,k4,k5⟩:=A1 (p:=p f) (q:=q f) (e:=f) (i:=i) (j:=j) (hpq f) (by omega) (by omega);rw[hpl]at hlp;refine ZY 2 ?_
    refine Zc (fun ρ' Γ'=>∃i2:Nat,i2=scanUp (p f) f j i∧ρ'=[(0,s.v),(1,.int .i64 (a:Int)),(10,.int .i64 (i2:Int)),(11,.int .i64 z)]∧Γ'=own s 31 1 (uA f)::Γ) ?_ ?_
    ·refine Zy ?_;refine Zl (fun r ρ' Γ'=>∃i':Nat,r=j+1-i'∧i≤i'∧i'≤j+1∧scanUp (p f) f j i'=scanUp (p f) f j i∧ρ'=[(0,s.v),(1,.int .i64 (a:Int)),(10,.int .i64 (i':Int)),(11,.int .i64 z)]∧Γ'=own s 31 1 (uA f)::Γ) (m:=_) (⟨i,rfl,by omega,by omega,rfl,rfl,rfl⟩) ?_;rintro r ρ' Γ' ⟨i',hr,hii,hij',Pv,rfl,rfl⟩;refine ZY 2 ?_;refine Zd ([own s 31 1 (uA f)]) [] (Zra 0 4) (ZY 4 ?_)
     refine Zb 102 ef (fun hg13_3=>?_) (fun hg13_3=>?_)
     ·refine Zr (Zra 4 8) (ZY 2 ?_);refine Zwg ef ef ef ef (Zx (i') ef (Q4) ef (by omega)) ?_;refine Zwg ef ef ef ef (Zo (s) (i') ef (Q4) (Zh (by omega))) (ZY 2 ?_);refine Zwg ef ef ef ef (Zx (a) ef (Q4) ef (by omega)) ?_;refine Zwg ef ef ef ef (Zo (s) (a) ef (Q4) (Zh (by omega))) ?_;refine Z1g (i:=12) ef ef ef ef ef (rfl) ?_;refine  (Zcp Ze (Kh (f[i']!) (f[a]!)) ?_);refine Zk [13] (Zy ?_);refine ZD ?_
      refine Zi ef (fun h4=>?_) (fun h4=>?_)
      ·have Gp:scanUp (p f) f j i'=scanUp (p f) f j (i'+1):=Cj (by omega) (hpv _ _ h4);refine ZY 4 (Zv (Za ef ef) (ZY 2 ?_));exact ZX (r-1) (⟨i'+1,by omega,by omega,by omega,Gp.symm.trans Pv,rfl,rfl⟩) (by omega)
      ·have Xf:scanUp (p f) f j i'=i':=Jc (fun h=>by rw[hpn _ _ h.2]at h4;cases h4);refine Zy ?_;exact ZM ⟨i',Xf.symm.trans Pv,rfl,rfl⟩
     ·have Xf:scanUp (p f) f j i'=i':=Jc (fun h=>hg13_3 (by omega));refine Zr (Zra 4 10) (ZY 8 (ZY 2 ?_));refine ZD (ZY 2 ?_);exact ZM ⟨i',Xf.symm.trans Pv,rfl,rfl⟩
    ·rintro ρ' Γ' ⟨i2,D6,rfl,rfl⟩;rw[←D6]at k1 k2 k3 k4 k5 hlp;refine Zy ?_
     refine Zc (fun ρ' Γ'=>∃(j2:Nat) (z2:Int),z2=j2∧j2=scanDown (q f) f i2 j∧ρ'=[(0,s.v),(1,.int .i64 (a:Int)),(10,.int .i64 (i2:Int)),(11,.int .i64 z2)]∧Γ'=own s 31 1 (uA f)::Γ) ?_ ?_
     ·refine Zy ?_;refine Zl (fun r ρ' Γ'=>∃(j':Nat) (z':Int),r=j'∧z'=j'∧j'≤j∧scanDown (q f) f i2 j'=scanDown (q f) f i2 j∧ρ'=[(0,s.v),(1,.int .i64 (a:Int)),(10,.int .i64 (i2:Int)),(11,.int .i64 z')]∧Γ'=own s 31 1 (uA f)::Γ) (m:=_) (⟨j,z,rfl,hz,by omega,rfl,rfl,rfl⟩) ?_;rintro r ρ' Γ' ⟨j',z',hr,hz',hjj,Pv,rfl,rfl⟩;refine ZY 2 ?_;refine Zd ([own s 31 1 (uA f)]) [] (Zra 0 4) (ZY 4 ?_)
      refine Zb 118 ef (fun hg15_3=>?_) (fun hg15_3=>?_)
      ·refine Zr (Zra 4 8) (ZY 2 ?_);refine Zwg ef ef ef ef (Zx (j') ef (Q4) ef (by omega) (hz')) ?_;refine Zwg ef ef ef ef (Zo (s) (j') ef (Q4) (Zh (by omega))) (ZY 2 ?_);refine Zwg ef ef ef ef (Zx (a) ef (Q4) ef (by omega)) ?_;refine Zwg ef ef ef ef (Zo (s) (a) ef (Q4) (Zh (by omega))) ?_;refine Z1g (i:=12) ef ef ef ef ef (rfl) ?_;refine  (Zcp Ze (Kh (f[j']!) (f[a]!)) ?_);refine Zk [13,14] (ZY 2 ?_);refine ZD ?_
       refine Zi ef (fun h5=>?_) (fun h5=>?_)
       ·have Gp:scanDown (q f) f i2 j'=scanDown (q f) f i2 (j' - 1):=Fs (by omega) (by omega) (hqv _ _ h5);refine ZY 4 (Zv (Zm ef ef) (ZY 2 ?_));exact ZX (j' - 1) (⟨j' - 1,z' - 1,rfl,by omega,by omega,Gp.symm.trans Pv,rfl,rfl⟩) (by omega)
       ·have Xf:scanDown (q f) f i2 j'=j':=Uo (fun h=>by rw[hqn _ _ h.2]at h5;cases h5);refine Zy ?_;exact ZM ⟨j',z',hz',Xf.symm.trans Pv,rfl,rfl⟩
      ·have Xf:scanDown (q f) f i2 j'=j':=Uo (fun h=>hg15_3 (by omega));refine Zr (Zra 4 11) (ZY 8 (ZY 3 ?_));refine ZD (ZY 2 ?_);exact ZM ⟨j',z',hz',Xf.symm.trans Pv,rfl,rfl⟩
     ·rintro ρ' Γ' ⟨j2,z2,rfl,hj2,rfl,rfl⟩;rw[←hj2]at k3 k4 k5 hlp;refine ZY 7 ?_
      refine Zj ef (fun h6=>?_) (fun h6=>?_)
      ·rw[if_pos (by omega)]at hlp;rw[←hlp]at hpt;refine ZY 2 ?_;refine Zd ([own s 31 1 (uA f)]) [13] [0,1] (ZY 2 ?_);refine ZP 2 [] ef (Z8 rfl) ef ?_;refine ZP 3 (Zra 4 9) ef (Z8 rfl) ef (ZY 2 ?_);refine Zw ef (Zx (a) ef (Q4) ef (by omega)) ?_;refine Zw ef (Zo (s) (a) ef (Q4) (Zh (by omega))) (ZY 2 ?_);refine Zw ef (Zx (j2) ef (Q4) ef (by omega)) ?_;refine Zw ef (Zo (s) (j2) ef (Q4) (Zh (by omega))) ?_;refine Zw ef (Zx (j2) ef (Q4) ef (by omega)) ?_;refine Z1 (i:=13) ef ef ?_;refine(S.Yb (s) (j2) Eo.h rfl rfl rfl Q4 (by first|rfl|exact Nat.add_assoc _ _ _|omega) (by rw[Xv];omega) (Xu _ _ _) ?_);refine ZL ([]) [14] ?_;refine Zw ef (Zx (a) ef (Q4) ef (by omega)) ?_;refine Z1 (i:=15) ef ef ?_;refine(S.Yb (s) (a) Eo.h rfl rfl rfl Q4 (by first|rfl|exact Nat.add_assoc _ _ _|omega) (by rw[Xv,Array.size_setIfInBounds];omega) (show _=uA (Go.Sort.swp f (j2) (a)) from Xu _ _ _) ?_);refine Zk [] ?_;refine ZD (ZY 7 ?_);exact Zf ef Zq (⟨by rw[hpt];first|done|rfl,by rw[hpt]⟩)
      ·rw[if_neg (by omega)]at hlp;have k6:=k5 (by omega);refine ZY 2 ?_;refine Zd ([own s 31 1 (uA f)]) [13] [0,1] (ZY 2 ?_);refine ZP 2 [] ef (Z8 rfl) ef ?_;refine ZP 3 (Zra 4 9) ef (Z8 rfl) ef (ZY 2 ?_);refine Zw ef (Zx (j2) ef (Q4) ef (by omega)) ?_;refine Zw ef (Zo (s) (j2) ef (Q4) (Zh (by omega))) (ZY 2 ?_);refine Zw ef (Zx (i2) ef (Q4) ef (by omega)) ?_;refine Zw ef (Zo (s) (i2) ef (Q4) (Zh (by omega))) ?_;refine Zw ef (Zx (i2) ef (Q4) ef (by omega)) ?_;refine Z1 (i:=13) ef ef ?_;refine(S.Yb (s) (i2) Eo.h rfl rfl rfl Q4 (by first|rfl|exact Nat.add_assoc _ _ _|omega) (by rw[Xv];omega) (Xu _ _ _) ?_);refine ZL ([]) [14] ?_;refine Zw ef (Zx (j2) ef (Q4) ef (by omega)) ?_;refine Z1 (i:=15) ef ef ?_;refine(S.Yb (s) (j2) Eo.h rfl rfl rfl Q4 (by first|rfl|exact Nat.add_assoc _ _ _|omega) (by rw[Xv,Array.size_setIfInBounds];omega) (show _=uA (Go.Sort.swp f (i2) (j2)) from Xu _ _ _) ?_);refine Zk [] ?_;refine ZD (ZY 3 (Zv (Za ef ef) (ZY 4 (Zv (Zm ef ef) (ZY 2 ?_)))));exact ZX (j2-1+1-(i2+1)) (⟨i2+1,j2-1,(j2:Int)-1,swp f i2 j2,rfl,by omega,by omega,by omega,by omega,by rw[Hr,Sj],hlp,rfl,rfl⟩) (by omega)
theorem Pe(s:SV)(d:Array Int)(a b pv:Nat)(hap:a≤pv)(hpb:pv<b)(hb:b≤d.size)(G3:d.size≤65535)(Uj:s.n=d.size):Spec Tryz.prog 163 [s.v,.int .i64 (a:Int),.int .i64 (b:Int),.int .i64 (pv:Int)] [own s 31 1 (uA d)] fun Γ v Θ=>v=.int .i64 ((partitionEqual ltInt d a b pv).1:Nat)∧Θ=own s 31 1 (uA (partitionEqual ltInt d a b pv).2)::Γ:=by
 refine Zbd Tryz.func163 rfl Tryz.ntmps163 fun w0 Γ=>Zsh ?_;refine S.Qp s (by omega) fun sb so Q4 _ _ _=>?_;obtain⟨p,hp⟩:∃p:Array Int→Int→Bool,p=fun f x=>!ltInt f[a]! x:=⟨_,rfl⟩;obtain⟨q,hq⟩:∃q:Array Int→Int→Bool,q=fun f x=>ltInt f[a]! x:=⟨_,rfl⟩;have hpq:∀f x,q f x=!p f x:=fun f x=>by rw[hp,hq];simp
 have hpv:∀f x,(!ltInt f[a]! x)=true→p f x=true:=fun f x h=>by rw[hp];exact h
 have hpn:∀f x,p f x=true→(!ltInt f[a]! x)=true:=fun f x h=>by rw[hp]at h;exact h
 have hqv:∀f x,ltInt f[a]! x=true→q f x=true:=fun f x h=>by rw[hq];exact h
 have hqn:∀f x,q f x=true→ltInt f[a]! x=true:=fun f x h=>by rw[hq]at h;exact h
 have hpl:∀i j f,partEqLoop ltInt a i j f=if scanUp (p f) f j i > scanDown (q f) f (scanUp (p f) f j i) j then (scanUp (p f) f j i,f) else partEqLoop ltInt a (scanUp (p f) f j i+1) (scanDown (q f) f (scanUp (p f) f j i) j-1) (swp f (scanUp (p f) f j i) (scanDown (q f) f (scanUp (p f) f j i) j)):=fun i j f=>by
  rw[hp,hq];exact partEqLoop_eq ltInt a i j f
 obtain⟨L,hL⟩:∃L,L=partitionEqual ltInt d a b pv:=⟨_,rfl⟩;have hL2:partEqLoop ltInt a (a+1) (b-1) (swp d a pv)=L:=hL.symm;rw[←hL];clear hp hq
 refine ZY 5 ?_;refine Zd ([own s 31 1 (uA d)]) [13] [0,1] (ZY 2 ?_);refine ZP 2 [] ef (Z8 rfl) ef ?_;refine ZP 3 (Zra 4 9) ef (Z8 rfl) ef (ZY 2 ?_);refine Zw ef (Zx (pv) ef (Q4) ef (by omega)) ?_;refine Zw ef (Zo (s) (pv) ef (Q4) (Zh (by omega))) (ZY 2 ?_);refine Zw ef (Zx (a) ef (Q4) ef (by omega)) ?_;refine Zw ef (Zo (s) (a) ef (Q4) (Zh (by omega))) ?_;refine Zw ef (Zx (a) ef (Q4) ef (by omega)) ?_;refine Z1 (i:=13) ef ef ?_;refine(S.Yb (s) (a) Eo.h rfl rfl rfl Q4 (by first|rfl|exact Nat.add_assoc _ _ _|omega) (by rw[Xv];omega) (Xu _ _ _) ?_);refine ZL ([]) [14] ?_;refine Zw ef (Zx (pv) ef (Q4) ef (by omega)) ?_;refine Z1 (i:=15) ef ef ?_;refine(S.Yb (s) (pv) Eo.h rfl rfl rfl Q4 (by first|rfl|exact Nat.add_assoc _ _ _|omega) (by rw[Xv,Array.size_setIfInBounds];omega) (show _=uA (Go.Sort.swp d (a) (pv)) from Xu _ _ _) ?_);refine Zk [] ?_;refine ZD (ZY 3 (Zv (Za ef ef) (Zy (Zv (Zm ef ef) (ZY 5 ?_)))));refine Zl (fun r ρ' Γ'=>∃(i j:Nat) (z:Int) (f:Array Int),r=j+1-i∧z=j∧a<i∧i≤j+1∧j<b∧f.size=d.size∧partEqLoop ltInt a i j f=L∧ρ'=[(0,s.v),(1,.int .i64 (a:Int)),(9,.int .i64 (i:Int)),(10,.int .i64 z)]∧Γ'=own s 31 1 (uA f)::Γ) (m:=_) (⟨a+1,b-1,(b:Int)-1,swp d a pv,rfl,by omega,by omega,by omega,by omega,by rw[Hr],hL2,rfl,rfl⟩) ?_;rintro r3 ρ' Γ' ⟨i,j,z,f,hr3,hz,hai,hij,hjb,Sj,hlp,rfl,rfl⟩;obtain⟨k1,k2,k3,k4,k5⟩:=A1 (p:=p f) (q:=q f) (e:=f) (i:=i) (j:=j) (hpq f) (by omega) (by omega);rw[hpl]at hlp;refine ZY 2 ?_
 refine Zc (fun ρ' Γ'=>∃i2:Nat,i2=scanUp (p f) f j i∧ρ'=[(0,s.v),(1,.int .i64 (a:Int)),(9,.int .i64 (i2:Int)),(10,.int .i64 z)]∧Γ'=own s 31 1 (uA f)::Γ) ?_ ?_
 ·refine Zy ?_;refine Zl (fun r ρ' Γ'=>∃i':Nat,r=j+1-i'∧i≤i'∧i'≤j+1∧scanUp (p f) f j i'=scanUp (p f) f j i∧ρ'=[(0,s.v),(1,.int .i64 (a:Int)),(9,.int .i64 (i':Int)),(10,.int .i64 z)]∧Γ'=own s 31 1 (uA f)::Γ) (m:=_) (⟨i,rfl,by omega,by omega,rfl,rfl,rfl⟩) ?_;rintro r ρ' Γ' ⟨i',hr,hii,hij',Pv,rfl,rfl⟩;refine ZY 2 ?_;refine Zd ([own s 31 1 (uA f)]) [] (Zra 0 4) (ZY 4 ?_)
  refine Zb 32 ef (fun hg3_3=>?_) (fun hg3_3=>?_)
  ·refine Zr (Zra 4 8) (ZY 2 ?_);refine Zwg ef ef ef ef (Zx (a) ef (Q4) ef (by omega)) ?_;refine Zwg ef ef ef ef (Zo (s) (a) ef (Q4) (Zh (by omega))) (ZY 2 ?_);refine Zwg ef ef ef ef (Zx (i') ef (Q4) ef (by omega)) ?_;refine Zwg ef ef ef ef (Zo (s) (i') ef (Q4) (Zh (by omega))) ?_;refine Z1g (i:=12) ef ef ef ef ef (rfl) ?_;refine  (Zcp Ze (Kh (f[a]!) (f[i']!)) ?_);refine Zk [13,14] (ZY 2 ?_);refine ZD ?_
   refine Zi ef (fun h1=>?_) (fun h1=>?_)
   ·have Gp:scanUp (p f) f j i'=scanUp (p f) f j (i'+1):=Cj (by omega) (hpv _ _ h1);refine ZY 4 (Zv (Za ef ef) (ZY 2 ?_));exact ZX (r-1) (⟨i'+1,by omega,by omega,by omega,Gp.symm.trans Pv,rfl,rfl⟩) (by omega)
   ·have Xf:scanUp (p f) f j i'=i':=Jc (fun h=>by rw[hpn _ _ h.2]at h1;cases h1);refine Zy ?_;exact ZM ⟨i',Xf.symm.trans Pv,rfl,rfl⟩
  ·have Xf:scanUp (p f) f j i'=i':=Jc (fun h=>hg3_3 (by omega));refine Zr (Zra 4 11) (ZY 8 (ZY 3 ?_));refine ZD (ZY 2 ?_);exact ZM ⟨i',Xf.symm.trans Pv,rfl,rfl⟩
 ·rintro ρ' Γ' ⟨i2,D6,rfl,rfl⟩;rw[←D6]at k1 k2 k3 k4 k5 hlp;refine Zy ?_
  refine Zc (fun ρ' Γ'=>∃(j2:Nat) (z2:Int),z2=j2∧j2=scanDown (q f) f i2 j∧ρ'=[(0,s.v),(1,.int .i64 (a:Int)),(9,.int .i64 (i2:Int)),(10,.int .i64 z2)]∧Γ'=own s 31 1 (uA f)::Γ) ?_ ?_
  ·refine Zy ?_;refine Zl (fun r ρ' Γ'=>∃(j':Nat) (z':Int),r=j'∧z'=j'∧j'≤j∧scanDown (q f) f i2 j'=scanDown (q f) f i2 j∧ρ'=[(0,s.v),(1,.int .i64 (a:Int)),(9,.int .i64 (i2:Int)),(10,.int .i64 z')]∧Γ'=own s 31 1 (uA f)::Γ) (m:=_) (⟨j,z,rfl,hz,by omega,rfl,rfl,rfl⟩) ?_;rintro r ρ' Γ' ⟨j',z',hr,hz',hjj,Pv,rfl,rfl⟩;refine ZY 2 ?_;refine Zd ([own s 31 1 (uA f)]) [] (Zra 0 4) (ZY 4 ?_)
   refine Zb 49 ef (fun hg5_3=>?_) (fun hg5_3=>?_)
   ·refine Zr (Zra 4 8) (ZY 2 ?_);refine Zwg ef ef ef ef (Zx (a) ef (Q4) ef (by omega)) ?_;refine Zwg ef ef ef ef (Zo (s) (a) ef (Q4) (Zh (by omega))) (ZY 2 ?_);refine Zwg ef ef ef ef (Zx (j') ef (Q4) ef (by omega) (hz')) ?_;refine Zwg ef ef ef ef (Zo (s) (j') ef (Q4) (Zh (by omega))) ?_;refine Z1g (i:=12) ef ef ef ef ef (rfl) ?_;refine  (Zcp Ze (Kh (f[a]!) (f[j']!)) ?_);refine Zk [13] (Zy ?_);refine ZD ?_
    refine Zi ef (fun h2=>?_) (fun h2=>?_)
    ·have Gp:scanDown (q f) f i2 j'=scanDown (q f) f i2 (j' - 1):=Fs (by omega) (by omega) (hqv _ _ h2);refine ZY 4 (Zv (Zm ef ef) (ZY 2 ?_));exact ZX (j' - 1) (⟨j' - 1,z' - 1,rfl,by omega,by omega,Gp.symm.trans Pv,rfl,rfl⟩) (by omega)
    ·have Xf:scanDown (q f) f i2 j'=j':=Uo (fun h=>by rw[hqn _ _ h.2]at h2;cases h2);refine Zy ?_;exact ZM ⟨j',z',hz',Xf.symm.trans Pv,rfl,rfl⟩
   ·have Xf:scanDown (q f) f i2 j'=j':=Uo (fun h=>hg5_3 (by omega));refine Zr (Zra 4 10) (ZY 8 (ZY 2 ?_));refine ZD (ZY 2 ?_);exact ZM ⟨j',z',hz',Xf.symm.trans Pv,rfl,rfl⟩
  ·rintro ρ' Γ' ⟨j2,z2,rfl,hj2,rfl,rfl⟩;rw[←hj2]at k3 k4 k5 hlp;refine ZY 7 ?_
   refine Zj ef (fun h3=>?_) (fun h3=>?_)
   ·rw[if_pos (by omega)]at hlp;refine ZY 7 ?_;exact Zf ef Zq (⟨by rw[←hlp];first|done|rfl,by rw[←hlp]⟩)
   ·rw[if_neg (by omega)]at hlp;have k6:=k5 (by omega);refine ZY 2 ?_;refine Zd ([own s 31 1 (uA f)]) [13] [0,1] (ZY 2 ?_);refine ZP 2 [] ef (Z8 rfl) ef ?_;refine ZP 3 (Zra 4 9) ef (Z8 rfl) ef (ZY 2 ?_);refine Zw ef (Zx (j2) ef (Q4) ef (by omega)) ?_;refine Zw ef (Zo (s) (j2) ef (Q4) (Zh (by omega))) (ZY 2 ?_);refine Zw ef (Zx (i2) ef (Q4) ef (by omega)) ?_;refine Zw ef (Zo (s) (i2) ef (Q4) (Zh (by omega))) ?_;refine Zw ef (Zx (i2) ef (Q4) ef (by omega)) ?_;refine Z1 (i:=13) ef ef ?_;refine(S.Yb (s) (i2) Eo.h rfl rfl rfl Q4 (by first|rfl|exact Nat.add_assoc _ _ _|omega) (by rw[Xv];omega) (Xu _ _ _) ?_);refine ZL ([]) [14] ?_;refine Zw ef (Zx (j2) ef (Q4) ef (by omega)) ?_;refine Z1 (i:=15) ef ef ?_;refine(S.Yb (s) (j2) Eo.h rfl rfl rfl Q4 (by first|rfl|exact Nat.add_assoc _ _ _|omega) (by rw[Xv,Array.size_setIfInBounds];omega) (show _=uA (Go.Sort.swp f (i2) (j2)) from Xu _ _ _) ?_);refine Zk [] ?_;refine ZD (ZY 3 (Zv (Za ef ef) (ZY 4 (Zv (Zm ef ef) (ZY 2 ?_)))));exact ZX (j2-1+1-(i2+1)) (⟨i2+1,j2-1,(j2:Int)-1,swp f i2 j2,rfl,by omega,by omega,by omega,by omega,by rw[Hr,Sj],hlp,rfl,rfl⟩) (by omega)
theorem Zao(s:SV)(N:Nat)(G3:N≤65535)(Uj:s.n=N):∀(n a b:Nat) (d:Array Int) (l:Int),n=b-a→a≤b→b≤d.size→d.size=N→0≤l∧l≤64→Below ltInt a b d→Spec Tryz.prog 137 [s.v,.int .i64 (a:Int),.int .i64 (b:Int),.int .i64 l] [own s 31 1 (uA d)] fun Γ _ Θ=>∃R,PermIn a b d R∧SortedIn ltInt a b R∧Θ=own s 31 1 (uA R)::Γ:=by
 intro n;induction n using Nat.strongRecOn with
 | _ n ih=>
 intro a b d l hn hab hb hdN hl Zg5;refine Zbd Tryz.func137 rfl Tryz.ntmps137 fun w0 Γ=>Zsh (ZY 8 (Zy ?_));refine Zl (fun q ρ' Γ'=>∃(a' b':Nat) (l:Int) (wb wp:Bool) (e:Array Int),q=b' - a'∧a'≤b'∧a≤a'∧b'≤b∧(0≤l∧l≤64)∧e.size=d.size∧Below ltInt a' b' e∧(∀R,PermIn a' b' e R→SortedIn ltInt a' b' R→PermIn a b d R∧SortedIn ltInt a b R)∧ρ'=[(0,s.v),(1,.int .i64 (a':Int)),(2,.int .i64 (b':Int)),(3,.int .i64 l),(8,.bool wb),(9,.bool wp)]∧Γ'=own s 31 1 (uA e)::Γ) (m:=_) (⟨a,b,l,true,true,d,rfl,hab,by omega,by omega,hl,rfl,Zg5,fun R h1 h2=>⟨h1,h2⟩,rfl,rfl⟩) ?_;rintro q ρ' Γ' ⟨a',b',l,wb,wp,e,hq,hab',haa,hbb,hl,hes,hB,hG,rfl,rfl⟩;refine ZY 5 (Zv (Zm ef ef) (ZY 8 ?_))
 refine Zj ef (fun h1=>?_) (fun h1=>?_)
 ·obtain⟨p1,p2⟩:=insertionSort_holds swo_ltInt e a' b' hab' (by omega);obtain⟨p3,p4⟩:=hG _ p1 p2;refine ZY 5 (Zp (Zc1 Ze (Qrg s e a' b' hab' (by omega) (by omega) (by omega)) ?_));rintro v Θ rfl;refine ZY 2 ?_;exact Zf ef Zq (⟨_,p3,p4,rfl⟩)
 ·refine ZY 7 ?_
  refine Zj ef (fun h2=>?_) (fun h2=>?_)
  ·obtain⟨p1,p2⟩:=heapSort_holds swo_ltInt e a' b' hab' (by omega);obtain⟨p3,p4⟩:=hG _ p1 p2;refine ZY 5 (Zp (Zc1 Ze (Qmg s e a' b' (by omega) (by omega) (by omega) (by omega)) ?_));rintro v Θ rfl;refine ZY 2 ?_;exact Zf ef Zq (⟨_,p3,p4,rfl⟩)
  ·refine ZY 7 ?_
   refine Zc (fun ρ' Γ'=>∃(l2:Int) (e1:Array Int),(0≤l2∧l2≤64)∧PermIn a' b' e e1∧ρ'=[(0,s.v),(1,.int .i64 (a':Int)),(2,.int .i64 (b':Int)),(3,.int .i64 l2),(8,.bool wb),(9,.bool wp),(10,.int .i64 ((b':Int)-a'))]∧Γ'=own s 31 1 (uA e1)::Γ) ?_ ?_
   ·refine Zi ef (fun h3=>?_) (fun h3=>?_)
    ·refine ZY 5 (Zp (Zc1 Ze (Q3u s e a' b' (by omega) (by omega) (by omega) (by omega)) ?_));rintro v Θ ⟨e1,hp1,rfl⟩;refine ZY 3 (Zv (Zm ef ef) (ZY 2 ?_));first|exact S.meet ⟨l-1,e1,by omega,hp1,rfl,rfl⟩ ⟨rfl,rfl,rfl,rfl,rfl,rfl,rfl,trivial⟩ Sub.Qh|exact S.meet ⟨l,e,hl,permIn_refl _ _ _,rfl,rfl⟩ ⟨rfl,rfl,rfl,rfl,rfl,rfl,rfl,trivial⟩ Sub.Qh
    ·refine Zy ?_;first|exact S.meet ⟨l-1,e1,by omega,hp1,rfl,rfl⟩ ⟨rfl,rfl,rfl,rfl,rfl,rfl,rfl,trivial⟩ Sub.Qh|exact S.meet ⟨l,e,hl,permIn_refl _ _ _,rfl,rfl⟩ ⟨rfl,rfl,rfl,rfl,rfl,rfl,rfl,trivial⟩ Sub.Qh
   ·rintro ρ' Γ' ⟨l2,e1,Gq,hp1,rfl,rfl⟩;have hz1:=hp1.1;refine ZY 5 (Zp (Zc1 Ze (Qyb s e1 a' b' (by omega) (by omega) (by omega) (by omega)) ?_));rintro v Θ ⟨u,h,hu,rfl,rfl⟩;refine ZY 8 (ZY 4 ?_)
    refine Zc (fun ρ' Γ'=>∃(u2:Nat) (zu h2:Int) (e2:Array Int),zu=u2∧(a'≤u2∧u2<b')∧PermIn a' b' e e2∧ρ'=[(0,s.v),(1,.int .i64 (a':Int)),(2,.int .i64 (b':Int)),(3,.int .i64 l2),(8,.bool wb),(9,.bool wp),(10,.int .i64 ((b':Int)-a')),(11,.int .i64 zu),(12,.int .i64 h2)]∧Γ'=own s 31 1 (uA e2)::Γ) ?_ ?_
    ·refine Zj ef (fun h4=>?_) (fun h4=>?_)
     ·refine ZY 5 (Zp (Zc1 Ze (Qqm s e1 a' b' (by omega) (by omega) (by omega) (by omega)) ?_));rintro v Θ ⟨e2,hp2,rfl⟩;refine ZY 4 (Zv (Zm ef ef) (ZY 2 (Zv (Zm ef ef) (Zv (Zm ef ef) (ZY 5 ?_)))));first|exact S.meet ⟨b' - 1-(u-a'),(b':Int)-1-((u:Int)-a'),1,e2,by omega,by omega,permIn_trans _ _ _ _ _ hp1 hp2,rfl,rfl⟩ ⟨rfl,rfl,rfl,rfl,rfl,rfl,rfl,rfl,rfl,trivial⟩ Sub.Qh|exact S.meet ⟨u,u,h,e1,rfl,hu,hp1,rfl,rfl⟩ ⟨rfl,rfl,rfl,rfl,rfl,rfl,rfl,rfl,rfl,trivial⟩ Sub.Qh
     ·refine Zy ?_;first|exact S.meet ⟨b' - 1-(u-a'),(b':Int)-1-((u:Int)-a'),1,e2,by omega,by omega,permIn_trans _ _ _ _ _ hp1 hp2,rfl,rfl⟩ ⟨rfl,rfl,rfl,rfl,rfl,rfl,rfl,rfl,rfl,trivial⟩ Sub.Qh|exact S.meet ⟨u,u,h,e1,rfl,hu,hp1,rfl,rfl⟩ ⟨rfl,rfl,rfl,rfl,rfl,rfl,rfl,rfl,rfl,trivial⟩ Sub.Qh
    ·rintro ρ' Γ' ⟨u2,zu,h2,e2,rfl,hu2,hp2,rfl,rfl⟩;have hz2:=hp2.1;refine ZY 2 ?_
     refine Zc (fun ρ' Γ'=>∃bb:Bool,ρ'=[(0,s.v),(1,.int .i64 (a':Int)),(2,.int .i64 (b':Int)),(3,.int .i64 l2),(8,.bool wb),(9,.bool wp),(10,.int .i64 ((b':Int)-a')),(11,.int .i64 (u2:Int)),(68,.bool bb)]∧Γ'=own s 31 1 (uA e2)::Γ) ?_ ?_
     ·refine ZY 3 ?_
      refine Zbb 62 ef (fun hg15_1=>?_) (fun hg15_1=>?_)
      ·refine ZY 3 ?_
       refine Zbb 65 ef (fun hg15_4=>?_) (fun hg15_4=>?_)
       ·refine ZY 4 ?_;first|exact S.meet ⟨false,rfl,rfl⟩ ⟨rfl,rfl,rfl,rfl,rfl,rfl,rfl,rfl,rfl,trivial⟩ Sub.Qh|exact S.meet ⟨decide (h2=1),rfl,rfl⟩ ⟨rfl,rfl,rfl,rfl,rfl,rfl,rfl,rfl,rfl,trivial⟩ Sub.Qh
       ·refine ZY 4 ?_;first|exact S.meet ⟨false,rfl,rfl⟩ ⟨rfl,rfl,rfl,rfl,rfl,rfl,rfl,rfl,rfl,trivial⟩ Sub.Qh|exact S.meet ⟨decide (h2=1),rfl,rfl⟩ ⟨rfl,rfl,rfl,rfl,rfl,rfl,rfl,rfl,rfl,trivial⟩ Sub.Qh
      ·refine ZY 7 ?_;first|exact S.meet ⟨false,rfl,rfl⟩ ⟨rfl,rfl,rfl,rfl,rfl,rfl,rfl,rfl,rfl,trivial⟩ Sub.Qh|exact S.meet ⟨decide (h2=1),rfl,rfl⟩ ⟨rfl,rfl,rfl,rfl,rfl,rfl,rfl,rfl,rfl,trivial⟩ Sub.Qh
     ·rintro ρ' Γ' ⟨bb,rfl,rfl⟩
      refine Zc (fun ρ' Γ'=>∃e3:Array Int,PermIn a' b' e e3∧ρ'=[(0,s.v),(1,.int .i64 (a':Int)),(2,.int .i64 (b':Int)),(3,.int .i64 l2),(8,.bool wb),(9,.bool wp),(10,.int .i64 ((b':Int)-a')),(11,.int .i64 (u2:Int))]∧Γ'=own s 31 1 (uA e3)::Γ) ?_ ?_
      ·refine Zi ef (fun h5=>?_) (fun h5=>?_)
       ·obtain⟨pp1,pp2⟩:=partialInsertionSort_holds swo_ltInt e2 a' b' (by omega) (by omega) (hB.perm (by omega) hp2);refine ZY 5 (Zp (Zcp Ze (Qfv s e2 a' b' (by omega) (by omega) (by omega) (by omega)) (Zy ?_)))
        refine Zi ef (fun h6=>?_) (fun h6=>?_)
        ·obtain⟨p3,p4⟩:=hG _ (permIn_trans _ _ _ _ _ hp2 pp1) (pp2 h6);refine Zy ?_;exact Zf ef Zq (⟨_,p3,p4,rfl⟩)
        ·refine Zy ?_;first|exact S.meet ⟨_,permIn_trans _ _ _ _ _ hp2 pp1,rfl,rfl⟩ ⟨rfl,rfl,rfl,rfl,rfl,rfl,rfl,rfl,trivial⟩ Sub.Qh|exact S.meet ⟨e2,hp2,rfl,rfl⟩ ⟨rfl,rfl,rfl,rfl,rfl,rfl,rfl,rfl,trivial⟩ Sub.Qh
       ·refine Zy ?_;first|exact S.meet ⟨_,permIn_trans _ _ _ _ _ hp2 pp1,rfl,rfl⟩ ⟨rfl,rfl,rfl,rfl,rfl,rfl,rfl,rfl,trivial⟩ Sub.Qh|exact S.meet ⟨e2,hp2,rfl,rfl⟩ ⟨rfl,rfl,rfl,rfl,rfl,rfl,rfl,rfl,trivial⟩ Sub.Qh
      ·rintro ρ' Γ' ⟨e3,hp3,rfl,rfl⟩;have hz3:=hp3.1;have hB3:=hB.perm (by omega) hp3;refine S.Qp s (by omega) fun sb so Q4 _ _ _=>(ZY 2 ?_)
       refine Zc (fun ρ' Γ'=>∃bb:Bool,(bb=true→0<a'∧ltInt e3[a' - 1]! e3[u2]! = false)∧ρ'=[(0,s.v),(1,.int .i64 (a':Int)),(2,.int .i64 (b':Int)),(3,.int .i64 l2),(8,.bool wb),(9,.bool wp),(10,.int .i64 ((b':Int)-a')),(11,.int .i64 (u2:Int)),(87,.bool bb)]∧Γ'=own s 31 1 (uA e3)::Γ) ?_ ?_
       ·refine Zd ([own s 31 1 (uA e3)]) [] [0,1,2] (ZY 3 ?_)
        refine Zb 75 ef (fun hg17_2=>?_) (fun hg17_2=>?_)
        ·refine Zr (Zra 3 9) (ZY 2 ?_);refine Zwg ef ef ef ef (Zm ef ef) ?_;refine Zwg ef ef ef ef (Zx (a' - 1) ef (Q4) ef (by omega) ((by omega))) ?_;refine Zwg ef ef ef ef (Zo (s) (a' - 1) ef (Q4) (Zh (by omega))) (ZY 2 ?_);refine Zwg ef ef ef ef (Zx (u2) ef (Q4) ef (by omega)) ?_;refine Zwg ef ef ef ef (Zo (s) (u2) ef (Q4) (Zh (by omega))) ?_;refine Z1g (i:=12) ef ef ef ef ef (rfl) ?_;refine  (Zcp Ze (Kh (e3[a' - 1]!) (e3[u2]!)) ?_);refine Zk [13,14] (ZY 2 ?_);refine ZD ?_;first|exact S.meet ⟨false,fun h=>(by cases h),rfl,rfl⟩ ⟨rfl,rfl,rfl,rfl,rfl,rfl,rfl,rfl,rfl,trivial⟩ Sub.Qh|exact S.meet ⟨!ltInt e3[a' - 1]! e3[u2]!,fun h=>⟨by omega,by simpa using h⟩,rfl,rfl⟩ ⟨rfl,rfl,rfl,rfl,rfl,rfl,rfl,rfl,rfl,trivial⟩ Sub.Qh
        ·refine Zr (Zra 3 12) (ZY 8 (ZY 4 ?_));refine ZD ?_;first|exact S.meet ⟨false,fun h=>(by cases h),rfl,rfl⟩ ⟨rfl,rfl,rfl,rfl,rfl,rfl,rfl,rfl,rfl,trivial⟩ Sub.Qh|exact S.meet ⟨!ltInt e3[a' - 1]! e3[u2]!,fun h=>⟨by omega,by simpa using h⟩,rfl,rfl⟩ ⟨rfl,rfl,rfl,rfl,rfl,rfl,rfl,rfl,rfl,trivial⟩ Sub.Qh
       ·rintro ρ' Γ' ⟨bb,hbt,rfl,rfl⟩
        refine Zi ef (fun h7=>?_) (fun h7=>?_)
        ·obtain⟨h0,hnl⟩:=hbt h7;obtain⟨mid,d4,hpp⟩:∃mid d4,partitionEqual ltInt e3 a' b' u2=(mid,d4):=⟨_,_,rfl⟩;obtain⟨r1,r2,r3,r4,r5⟩:=round_eq swo_ltInt (partitionEqual_holds ltInt) h0 hu2.1 hu2.2 (by omega) hB3 hnl hpp;refine ZY 6 ?_;refine Zp (Zcp Ze ((by have h:=Pe s e3 a' b' u2 hu2.1 hu2.2 (by omega) (by omega) (by omega);rw[hpp]at h;exact h)) ?_);refine ZY 8 ?_;first|exact S.next (b' - mid) ⟨mid,b',l2,wb,wp,d4,rfl,by omega,by omega,by omega,Gq,by omega,r4,fun R h1 h2=>hG R (permIn_trans _ _ _ _ _ hp3 (r5 R h1 h2).1) (r5 R h1 h2).2,rfl,rfl⟩ (by omega) ⟨rfl,rfl,rfl,rfl,rfl,rfl,trivial⟩ Sub.Qh|exact S.next (b' - (mid+1)) ⟨mid+1,b',l2,_,ap,L,rfl,by omega,by omega,by omega,Gq,by omega,x1,fun R h1 h2=>hG R (permIn_trans _ _ _ _ _ hp3 (x2 R h1 h2).1) (x2 R h1 h2).2,rfl,rfl⟩ (by omega) ⟨rfl,rfl,rfl,rfl,rfl,rfl,trivial⟩ Sub.Qh|exact S.next (mid-a') ⟨a',mid,l2,_,ap,L,rfl,by omega,by omega,by omega,Gq,by omega,x1,fun R h1 h2=>hG R (permIn_trans _ _ _ _ _ hp3 (x2 R h1 h2).1) (x2 R h1 h2).2,rfl,rfl⟩ (by omega) ⟨rfl,rfl,rfl,rfl,rfl,rfl,trivial⟩ Sub.Qh
        ·obtain⟨mid,ap,d4,hpp⟩:∃mid ap d4,partition ltInt e3 a' b' u2=(mid,ap,d4):=⟨_,_,_,rfl⟩;obtain⟨r1,r2,r3,r4,r5,r6,r7⟩:=round_part swo_ltInt (partition_holds ltInt) hu2.1 hu2.2 (by omega) hB3 hpp;refine ZY 7 ?_;refine Zp (Zcp Ze ((by have h:=Qij s e3 a' b' u2 hu2.1 hu2.2 (by omega) (by omega) (by omega);rw[hpp]at h;exact h)) ?_);refine ZY 8 (ZY 7 (Zv (Zm ef ef) (ZY 2 (Zv (Zm ef ef) (ZY 6 ?_)))));refine Zv (Qap rfl rfl (⟨by omega,by omega⟩) (Y0 (by omega) (by omega))) (ZY 8 ?_)
         refine Zj ef (fun h8=>?_) (fun h8=>?_)
         ·refine ZY 8 (ZY 5 (Zp (Zc1 Ze (ih (mid-a') (by omega) a' mid d4 l2 rfl (by omega) (by omega) (by omega) Gq r4) ?_)));rintro v Θ ⟨L,hL1,hL2,rfl⟩;obtain⟨x1,x2⟩:=r6 L hL1 hL2;have hLs:=hL1.1;refine ZY 3 (Zv (Za ef ef) (ZY 2 ?_));first|exact S.next (b' - mid) ⟨mid,b',l2,wb,wp,d4,rfl,by omega,by omega,by omega,Gq,by omega,r4,fun R h1 h2=>hG R (permIn_trans _ _ _ _ _ hp3 (r5 R h1 h2).1) (r5 R h1 h2).2,rfl,rfl⟩ (by omega) ⟨rfl,rfl,rfl,rfl,rfl,rfl,trivial⟩ Sub.Qh|exact S.next (b' - (mid+1)) ⟨mid+1,b',l2,_,ap,L,rfl,by omega,by omega,by omega,Gq,by omega,x1,fun R h1 h2=>hG R (permIn_trans _ _ _ _ _ hp3 (x2 R h1 h2).1) (x2 R h1 h2).2,rfl,rfl⟩ (by omega) ⟨rfl,rfl,rfl,rfl,rfl,rfl,trivial⟩ Sub.Qh|exact S.next (mid-a') ⟨a',mid,l2,_,ap,L,rfl,by omega,by omega,by omega,Gq,by omega,x1,fun R h1 h2=>hG R (permIn_trans _ _ _ _ _ hp3 (x2 R h1 h2).1) (x2 R h1 h2).2,rfl,rfl⟩ (by omega) ⟨rfl,rfl,rfl,rfl,rfl,rfl,trivial⟩ Sub.Qh
         ·refine ZY 8 (ZY 3 (Zv (Za ef ef) (ZY 2 (Zp (Zc1 Ze (ih (b' - (mid+1)) (by omega) (mid+1) b' d4 l2 rfl (by omega) (by omega) (by omega) Gq r5) ?_)))));rintro v Θ ⟨L,hL1,hL2,rfl⟩;obtain⟨x1,x2⟩:=r7 L hL1 hL2;have hLs:=hL1.1;refine ZY 5 ?_;first|exact S.next (b' - mid) ⟨mid,b',l2,wb,wp,d4,rfl,by omega,by omega,by omega,Gq,by omega,r4,fun R h1 h2=>hG R (permIn_trans _ _ _ _ _ hp3 (r5 R h1 h2).1) (r5 R h1 h2).2,rfl,rfl⟩ (by omega) ⟨rfl,rfl,rfl,rfl,rfl,rfl,trivial⟩ Sub.Qh|exact S.next (b' - (mid+1)) ⟨mid+1,b',l2,_,ap,L,rfl,by omega,by omega,by omega,Gq,by omega,x1,fun R h1 h2=>hG R (permIn_trans _ _ _ _ _ hp3 (x2 R h1 h2).1) (x2 R h1 h2).2,rfl,rfl⟩ (by omega) ⟨rfl,rfl,rfl,rfl,rfl,rfl,trivial⟩ Sub.Qh|exact S.next (mid-a') ⟨a',mid,l2,_,ap,L,rfl,by omega,by omega,by omega,Gq,by omega,x1,fun R h1 h2=>hG R (permIn_trans _ _ _ _ _ hp3 (x2 R h1 h2).1) (x2 R h1 h2).2,rfl,rfl⟩ (by omega) ⟨rfl,rfl,rfl,rfl,rfl,rfl,trivial⟩ Sub.Qh
theorem Qhp{d R:Array Int}(P2:PermIn 0 d.size d R)(hR2:SortedIn ltInt 0 d.size R):R.toList.Perm d.toList∧R.toList.Pairwise (·≤·):=by
 constructor
 ·have h:=P2.2.2;have h1:(R.extract 0 d.size).toList=R.toList:=by rw[←P2.1];simp
  have h2:(d.extract 0 d.size).toList=d.toList:=by simp
  rw[h1,h2]at h;exact h
 ·refine List.pairwise_iff_getElem.2 fun i j hi hj hij=>?_;have h:=hR2 i j (Nat.zero_le _) hij (by rw[←P2.1];simpa using hj);have hi':i<R.size:=by simpa using hi
  have hj':j<R.size:=by simpa using hj
  rw[getElem!_pos R i hi',getElem!_pos R j hj']at h;have h:=of_decide_eq_false h;simp only[Array.getElem_toList];omega
theorem Qg2(s:SV)(d:Array Int)(G3:d.size≤65535)(Uj:s.n=d.size):Spec Tryz.prog 101 [s.v] [own s 31 1 (uA d)] fun Γ _ Θ=>∃R:Array Int,R.toList.Perm d.toList∧R.toList.Pairwise (·≤·)∧Θ=own s 31 1 (uA R)::Γ:=by
 refine Zbd Tryz.func101 rfl Tryz.ntmps101 fun w0 Γ=>Zsh ?_;have hbl:bitsLen s.n≤16:=(bitsLen_le_iff _ 16).2 (by omega);refine ZY 8 (ZY 2 ?_);refine Zv (Xw Tryz.Q4s.h (by rw[Tryz.underlying3];rfl) rfl (Rt (by omega) (by omega))) (Zp (Zcp Ze (Q5x s.n (by omega)) (Zp (Zc1 Ze (Zao s d.size G3 Uj (s.n-0) 0 s.n d _ rfl (by omega) (by omega) rfl (by omega) (.inl rfl)) ?_))));rintro v Θ ⟨R,P2,hR2,rfl⟩;rw[Uj]at P2 hR2;refine Zy ?_;exact Zfn ef Zq (⟨R,(Qhp P2 hR2).1,(Qhp P2 hR2).2,rfl⟩)
abbrev kv(z:Int):Value:=.int .u32 z
abbrev Qv7(c mb:Nat)(l:List (Int×Value)):List Assn:=[blk c 117 #[.map (some mb)],Qk mb .u32 l]
abbrev Zew(m:Mx):List Nat:=m.js.map (·.id)
namespace BN
abbrev ntC(x:Nt)(v:SV):List Value:=[.int .u8 (x.kind:Int),.int .u8 (x.node:Int),.int .u32 (x.Q5r:Int),.int .u32 (x.Zax:Int),.int .u32 (x.tick:Int),.int .u32 (x.gen:Int),.int .u32 (x.Qm:Int),.int .u32 (x.ver:Int),.int .u8 (x.Qt:Int),.int .i64 (x.Qb:Int),.int .u32 (x.W7:Int),.int .u32 (x.Un:Int),v.v]
abbrev odC(o:Od):List Value:=[.int .i64 (o.1:Int),.int .u8 (o.2.kind:Int),.int .u8 (o.2.node:Int),.int .u32 (o.2.Q5r:Int),.int .u32 (o.2.Zax:Int),.int .u32 (o.2.tick:Int),.int .u32 (o.2.gen:Int),.int .u32 (o.2.Qm:Int),.int .u32 (o.2.ver:Int),.int .u8 (o.2.Qt:Int),.int .i64 (o.2.Qb:Int),.int .u32 (o.2.W7:Int),.int .u32 (o.2.Un:Int),.slice none 0 0]
theorem Nw:∀o,(odC o).length=14:=fun _=>rfl
abbrev pt(b:Nat):Value:=.pointer (some ⟨b,0,none⟩)
abbrev bjC(x:Bj)(av:SV)(lb db rb sb:Option Nat):List Value:=
 [.int .u32 (x.id:Int),.int .u8 (x.tier:Int),.int .i64 (x.k:Int),.int .i64 (x.w:Int),.int .u8 (x.state:Int),.int .i64 (x.Qb:Int),av.v,.map lb,.int .i64 (x.work:Int),.int .u32 (x.ver:Int),.pointer (sb.map fun b=>⟨b,0,none⟩),.bool x.Vo,.int .u32 (x.F1:Int),.map db,.bool x.again,.bool x.done,.map rb]
def Gk(r:List (Nat×Nat×Nat)):List (Int×Value):=r.map fun y=>((y.1:Int),Value.agg #[.int .u32 (y.2.1:Int),.int .u32 (y.2.2:Int)])
def Dd(b:Option Nat)(s:Option (List (Nat×Nat×Nat))):Assn:=match b,s with
 | none,none=>fun _=>True
 | some b,some s=>Qk b .i64 (Gk s)
 | _,_=>fun _=>False
abbrev Bb:=SV×List Int
abbrev bbV(p:Bb):Value:=p.1.v
abbrev bbB(p:Bb):Assn:=own p.1 5 1 (bcells p.2)
def blobs(v:SV)(bs:List (List Int)):Assn:=fun h=>∃os:List Bb,os.map (·.2)=bs∧stars [own v 22 1 (os.map bbV),alls os bbB] h
def Ue(b:Option Nat)(id:Nat)(s:Option Sv):Assn:=match b,s with
 | none,none=>fun _=>True
 | some b,some s=>fun h=>∃(hb:Nat) (v:SV),stars [blk b 131 #[.int .u32 (id:Int),.int .u32 (s.ver:Int),.int .i64 (s.Qb:Int),v.v,.map (some hb),.bool s.told],Qk hb .i64 (Xy s.have_),if s.told then (fun _=>True) else blobs v s.bs] h
 | _,_=>fun _=>False
def JI(p:Nat)(x:Bj):Assn:=fun h=>∃(av:SV) (lb db rb sb:Option Nat),av.n=x.at_.length∧lb.isSome=x.Y4.isSome∧db.isSome=x.Qi.isSome∧rb.isSome=x.ran.isSome∧sb.isSome=x.Yt.isSome ∧
 stars [blk p 90 (bjC x av lb db rb sb).toArray,own av 3 1 (nds x.at_),Xz lb x.Y4,Xz db x.Qi,Dd rb x.ran,Ue sb x.id x.Yt] h
abbrev Ig:=SV×Im
abbrev igC(p:Ig):List Value:=[.int .u32 (p.2.Qm:Int),.int .u32 (p.2.ver:Int),.int .i64 (p.2.Qb:Int),p.1.v]
abbrev igB(p:Ig):Assn:=blobs p.1 p.2.bs
def imgs(v:SV)(l:List Im):Assn:=fun h=>∃os:List Ig,os.map (·.2)=l∧stars [own v 60 4 (os.flatMap igC),alls os igB] h
structure JOk(N:Nat)(x:Bj):Prop where
 B6:1≤x.id
 Al:x.id≤4294967295
 tier:x.tier≤3
 k1:1≤x.k
 kn:x.k≤N
 w:x.w≤10000
 cr:x.Qb≤x.w
 wk:x.work≤x.w
 Jy:x.at_.Pairwise (· < ·)
 at_:∀n∈x.at_,n<N
 drop:∀d,x.Qi=some d→d.Nodup
 lod:∀d,x.Y4=some d→d.Nodup
 ran:∀r,x.ran=some r→∀y∈r,y.2.1≤4294967295∧y.2.2≤4294967295
 ld:x.state=1→x.Y4.isSome=true
 svl:∀s,x.Yt=some s→s.bs.length=x.at_.length∧s.Qb≤x.w
structure Q7(b:Br):Prop where
 R:b.m.R=b.rows
 N:b.m.N=b.nodes
 Hu:Xk b.m
 Yz:Kp b.js
 Qm:∀x∈b.js,JOk b.nodes x
 Ev:b.js.length≤1000
 q1:1≤b.Ks
 q2:b.Ks≤1000
 g1:1≤b.Xe
 g2:b.Xe≤1000
 now:b.now≤4294967295
 fin:b.fin≤4294967295
 mem:b.members.length≤1000
 Eu:∀d,b.stops=some d→d.Nodup
abbrev bC(st:Br)(ub jb mb:Nat)(ov iv dv mv:SV)(sb:Option Nat):List Value:=
 [.int .i64 (st.nodes:Int),.int .i64 (st.rows:Int),.int .i64 (st.Ks:Int),.int .i64 (st.Xe:Int),.int .u32 (st.hold:Int),.int .u32 (st.now:Int),.map (some ub),.map (some jb),pt mb,ov.v,iv.v,dv.v,.int .u32 (st.gen:Int),.int .i64 st.row,mv.v,.int .u32 (st.fin:Int),.map sb,.bool st.Qo]
abbrev jI(ps:Nat→Nat)(x:Bj):Assn:=JI (ps x.id) x
abbrev bX(b:Nat)(st:Br)(ps:Nat→Nat)(ub jb mb:Nat)(ov iv dv mv:SV)(sb:Option Nat)(l:List (Int×Value))(Γ:List Assn):List Assn:=
 blk b 84 (bC st ub jb mb ov iv dv mv sb).toArray::Qk ub .i64 (Xy st.up)::Qk jb .u32 l::alls st.js (jI ps)::MI mb st.m::own ov 97 14 (st.Qa.flatMap odC)::imgs iv st.Qe::own dv 31 1 (Q9 st.done)::own mv 31 1 (Q9 st.members)::Xz sb st.stops::Γ
structure BF(st:Br)(ps:Nat→Nat)(ov iv dv mv:SV)(sb:Option Nat)(l:List (Int×Value)):Prop where
 ok:Q7 st
 perm:l.Perm (st.js.map (jE ps))
 on:ov.n=st.Qa.length
 im:iv.n=st.Qe.length
 dn:dv.n=st.done.length
 mn:mv.n=st.members.length
 sn:sb.isSome=st.stops.isSome
def BP(b:Nat)(st:Br)(ps:Nat→Nat):Assn:=fun h=>∃(ub jb mb:Nat) (ov iv dv mv:SV) (sb:Option Nat) (l:List (Int×Value)),BF st ps ov iv dv mv sb l∧stars (bX b st ps ub jb mb ov iv dv mv sb l []) h
section
variable {n:Nat}{md:Bool}{w0:WM md}{ρ:Env}{Γ Δ:List Assn}{φ:Act→World→Prop}
theorem S.Xx(b:Nat)(st:Br)(ps:Nat→Nat)[p:Pick (BP b st ps) Γ Δ](k:∀ub jb mb ov iv dv mv sb l,BF st ps ov iv dv mv sb l→S n w0 ρ (bX b st ps ub jb mb ov iv dv mv sb l Δ) φ):S n w0 ρ Γ φ:=by
 intro a w ha hs hx;obtain⟨h0,l0,h1,h2,d,l1,l2,⟨ub,jb,mb,ov,iv,dv,mv,sb,l,q1,q2⟩,s⟩:=hs.Qh p.Qh;exact k ub jb mb ov iv dv mv sb l q1 a w ha ⟨h0,l0,(Ent.unpack (bX b st ps ub jb mb ov iv dv mv sb l []) Δ) _ ⟨h1,h2,d,l1,l2,q2,s⟩⟩ hx
theorem Ent.bp{b:Nat}{st:Br}{ps:Nat→Nat}{ub jb mb:Nat}{ov iv dv mv:SV}{sb:Option Nat}{l:List (Int×Value)}(h:BF st ps ov iv dv mv sb l)(Γ:List Assn):Ent (bX b st ps ub jb mb ov iv dv mv sb l Γ) (BP b st ps::Γ):=
 (Ent.pack (bX b st ps ub jb mb ov iv dv mv sb l []) Γ).trans (Ent.W9 Γ fun _ s=>⟨ub,jb,mb,ov,iv,dv,mv,sb,l,h,s⟩)
theorem S.Q6(b:Nat)(st:Br)(ps:Nat→Nat)(ub jb mb:Nat)(ov iv dv mv:SV)(sb:Option Nat)(l:List (Int×Value))(h:BF st ps ov iv dv mv sb l)[q:Picks (bX b st ps ub jb mb ov iv dv mv sb l []) Γ Δ](k:S n w0 ρ (BP b st ps::Δ) φ):S n w0 ρ Γ φ:=
 S.Qh (q.Qh.trans (Ent.bp h Δ)) k
theorem S.Us(b:Nat)(st:Br)(ps:Nat→Nat)[p:Pick (BP b st ps) Γ Δ](k:Q7 st→S n w0 ρ Γ φ):S n w0 ρ Γ φ:=by
 intro a w ha hs hx;obtain⟨_,_,_,_,_,_,_,_,_,_,_,q1,_⟩:=(hs.Qh p.Qh).head;exact k q1.ok a w ha hs hx
theorem S.Qgc(p:Nat)(x:Bj)[q:Pick (JI p x) Γ Δ](k:∀av lb db rb sb,av.n=x.at_.length→lb.isSome=x.Y4.isSome→db.isSome=x.Qi.isSome→rb.isSome=x.ran.isSome→sb.isSome=x.Yt.isSome→S n w0 ρ (blk p 90 (bjC x av lb db rb sb).toArray::own av 3 1 (nds x.at_)::Xz lb x.Y4::Xz db x.Qi::Dd rb x.ran::Ue sb x.id x.Yt::Δ) φ):S n w0 ρ Γ φ:=by
 intro a w ha hs hx;obtain⟨h0,l0,h1,h2,d,l1,l2,⟨av,lb,db,rb,sb,q1,q2,q3,q4,q5,q6⟩,s⟩:=hs.Qh q.Qh;exact k av lb db rb sb q1 q2 q3 q4 q5 a w ha ⟨h0,l0,(Ent.unpack [blk p 90 (bjC x av lb db rb sb).toArray,own av 3 1 (nds x.at_),Xz lb x.Y4,Xz db x.Qi,Dd rb x.ran,Ue sb x.id x.Yt] Δ) _ ⟨h1,h2,d,l1,l2,q6,s⟩⟩ hx
theorem S.N8(p:Nat)(x:Bj)(av:SV)(lb db rb sb:Option Nat)(h1:av.n=x.at_.length)(h2:lb.isSome=x.Y4.isSome)(h3:db.isSome=x.Qi.isSome)(h4:rb.isSome=x.ran.isSome)(h5:sb.isSome=x.Yt.isSome)
  [q:Picks [blk p 90 (bjC x av lb db rb sb).toArray,own av 3 1 (nds x.at_),Xz lb x.Y4,Xz db x.Qi,Dd rb x.ran,Ue sb x.id x.Yt] Γ Δ] (k:S n w0 ρ (JI p x::Δ) φ):S n w0 ρ Γ φ:=
 S.Qh (q.Qh.trans ((Ent.pack [_,_,_,_,_,_] Δ).trans (Ent.W9 Δ fun _ s=>⟨av,lb,db,rb,sb,h1,h2,h3,h4,h5,s⟩))) k
end
theorem Spec.Us{b:Nat}{st:Br}{ps:Nat→Nat}{P:Program}{f:FuncId}{args:List Value}{pre:List Assn}{post:List Assn→Value→List Assn→Prop}{md:Bool}(h:Q7 st→Spec P f args (BP b st ps::pre) post md):Spec P f args (BP b st ps::pre) post md:=by
 intro Γ w hs;obtain⟨_,_,_,_,_,_,_,_,_,_,_,q1,_⟩:=hs.head;exact h q1.ok Γ w hs
abbrev rkC(r:Rk):List Value:=[.int .u8 (r.place:Int),.bool r.run,.int .u32 (r.gen:Int),.int .u32 (r.W7:Int),.int .u32 (r.Un:Int)]
abbrev Ro:=Nat×Rk×Nat
abbrev roE(o:Ro):Int×Value:=((o.1:Int),pt o.2.2)
abbrev roB(o:Ro):Assn:=blk o.2.2 111 (rkC o.2.1).toArray
abbrev roR(o:Ro):Nat×Rk:=(o.1,o.2.1)
structure Ot where
 x:Nt
 v:SV
 bs:List Int
abbrev otC(o:Ot):List Value:=ntC o.x o.v
abbrev otB(o:Ot):Assn:=own o.v 5 1 (bcells o.bs)
abbrev otR(o:Ot):Nt×List Int:=(o.x,o.bs)
abbrev niC(x:Nt):List Value:=ntC x SV.nil
abbrev ndX(p:Nat)(nd:Nd)(rb:Nat)(iv ov:SV)(rs:List Ro)(os:List Ot)(Γ:List Assn):List Assn:=
 blk p 107 #[.bool nd.up,.map (some rb),iv.v,ov.v,.bool nd.Qf]::Qk rb .u32 (rs.map roE)::alls rs roB::own iv 72 13 (nd.Yi.flatMap niC)::own ov 72 13 (os.flatMap otC)::alls os otB::Γ
structure NF(nd:Nd)(iv ov:SV)(rs:List Ro)(os:List Ot):Prop where
 rk:rs.map roR=nd.rk
 os:os.map otR=nd.out
 i:iv.n=nd.Yi.length
 o:ov.n=nd.out.length
def NI(p:Nat)(nd:Nd):Assn:=fun h=>∃(rb:Nat) (iv ov:SV) (rs:List Ro) (os:List Ot),NF nd iv ov rs os∧stars (ndX p nd rb iv ov rs os []) h
abbrev joC(j:Jo):List Value:=[.int .u32 (j.id:Int),.int .u8 (j.tier:Int),.int .i64 (j.k:Int),.int .i64 (j.w:Int),.int .u8 0,.int .i64 0]
abbrev joE(j:Jo):Int×Value:=((j.id:Int),.agg (joC j).toArray)
abbrev F4(l:List Nat):List (Int×Value):=l.map fun n:Nat=>((n:Int),Value.bool true)
def Sa(b:Nat)(f:List (Nat×Nat)):Assn:=fun h=>∃l:List (Int×Value),(∀id:Nat,(Q1 (id:Int) l).getD (.int .i64 0)=.int .i64 (Yn id f:Nat))∧Qk b .u32 l h
def Qe1(b:Nat):Assn:=fun h=>∃l:List (Int×Value),Qk b .u32 l h
def Uz(v:SV)(n:Nat):Assn:=fun h=>∃l:List Nat,l.length≤n∧v.n=l.length∧own v 31 1 (Q9 l) h
abbrev smC(s:Sm)(b:Nat)(nv:SV)(rb jb gb db wb:Nat)(iv dv wv:SV):List Value:=
 [pt b,.int .i64 (s.cn:Int),.int .i64 (s.cr:Int),.int .i64 (s.cq:Int),.int .i64 (s.cg:Int),nv.v,.int .u32 (s.now:Int),.int .u32 (s.next:Int),.map (some rb),.map (some jb),.map (some gb),.map (some db),iv.v,.map (some wb),dv.v,wv.v]
abbrev No:=Nat×Nd
abbrev noB(o:No):Assn:=NI o.1 o.2
abbrev noV(o:No):Value:=pt o.1
abbrev smX(p:Nat)(s:Sm)(b:Nat)(ps:Nat→Nat)(nv:SV)(ns:List No)(rb jb gb db wb:Nat)(iv dv wv:SV)(Γ:List Assn):List Assn:=
 blk p 55 (smC s b nv rb jb gb db wb iv dv wv).toArray::BP b s.b ps::own nv 103 1 (ns.map noV)::alls ns noB::Sa rb s.ran::Qk jb .u32 (s.Ym.map joE)::Qk gb .u32 (F4 s.gone)::Qk db .u32 (F4 s.done)::imgs iv s.Qe::Qe1 wb::Uz dv s.fu::Uz wv s.fu::Γ
structure SF(s:Sm)(nv:SV)(ns:List No)(iv:SV):Prop where
 nd:ns.map (·.2)=s.nd
 nn:nv.n=s.nd.length
 im:iv.n=s.Qe.length
def SP(p:Nat)(s:Sm):Assn:=fun h=>∃(b:Nat) (ps:Nat→Nat) (nv:SV) (ns:List No) (rb jb gb db wb:Nat) (iv dv wv:SV),SF s nv ns iv∧stars (smX p s b ps nv ns rb jb gb db wb iv dv wv []) h
section
variable {n:Nat}{md:Bool}{w0:WM md}{ρ:Env}{Γ Δ:List Assn}{φ:Act→World→Prop}
theorem S.Fu(p:Nat)(nd:Nd)[q:Pick (NI p nd) Γ Δ](k:∀rb iv ov rs os,NF nd iv ov rs os→S n w0 ρ (ndX p nd rb iv ov rs os Δ) φ):S n w0 ρ Γ φ:=by
 intro a w ha hs hx;obtain⟨h0,l0,h1,h2,d,l1,l2,⟨rb,iv,ov,rs,os,q1,q2⟩,s⟩:=hs.Qh q.Qh;exact k rb iv ov rs os q1 a w ha ⟨h0,l0,(Ent.unpack (ndX p nd rb iv ov rs os []) Δ) _ ⟨h1,h2,d,l1,l2,q2,s⟩⟩ hx
theorem S.Z7(p:Nat)(nd:Nd)(rb:Nat)(iv ov:SV)(rs:List Ro)(os:List Ot)(h:NF nd iv ov rs os)[q:Picks (ndX p nd rb iv ov rs os []) Γ Δ](k:S n w0 ρ (NI p nd::Δ) φ):S n w0 ρ Γ φ:=
 S.Qh (q.Qh.trans ((Ent.pack (ndX p nd rb iv ov rs os []) Δ).trans (Ent.W9 Δ fun _ s=>⟨rb,iv,ov,rs,os,h,s⟩))) k
theorem S.J4(p:Nat)(s:Sm)[q:Pick (SP p s) Γ Δ](k:∀b ps nv ns rb jb gb db wb iv dv wv,SF s nv ns iv→S n w0 ρ (smX p s b ps nv ns rb jb gb db wb iv dv wv Δ) φ):S n w0 ρ Γ φ:=by
 intro a w ha hs hx;obtain⟨h0,l0,h1,h2,d,l1,l2,⟨b,ps,nv,ns,rb,jb,gb,db,wb,iv,dv,wv,q1,q2⟩,s'⟩:=hs.Qh q.Qh;exact k b ps nv ns rb jb gb db wb iv dv wv q1 a w ha ⟨h0,l0,(Ent.unpack (smX p s b ps nv ns rb jb gb db wb iv dv wv []) Δ) _ ⟨h1,h2,d,l1,l2,q2,s'⟩⟩ hx
theorem S.Xo(p:Nat)(s:Sm)(b:Nat)(ps:Nat→Nat)(nv:SV)(ns:List No)(rb jb gb db wb:Nat)(iv dv wv:SV)(h:SF s nv ns iv)[q:Picks (smX p s b ps nv ns rb jb gb db wb iv dv wv []) Γ Δ](k:S n w0 ρ (SP p s::Δ) φ):S n w0 ρ Γ φ:=
 S.Qh (q.Qh.trans ((Ent.pack (smX p s b ps nv ns rb jb gb db wb iv dv wv []) Δ).trans (Ent.W9 Δ fun _ s'=>⟨b,ps,nv,ns,rb,jb,gb,db,wb,iv,dv,wv,h,s'⟩))) k
end
section
variable {α:Type}
theorem Jp(k:Nat)(v:α)(l:List (Nat×α))(i:Nat):Yg i (Xl k v l)=if i=k then some v else Yg i l:=by
 induction l with
 | nil=>
  simp only[Xl,Yg]
  by_cases h:k=i
  ·rw[if_pos h,if_pos h.symm]
  ·rw[if_neg h,if_neg (fun e=>h e.symm)]
 | cons x l ih=>
  unfold Xl
  by_cases hx:x.1=k
  ·rw[if_pos hx];simp only[Yg]
   by_cases h:k=i
   ·rw[if_pos h,if_pos h.symm]
   ·rw[if_neg h,if_neg (fun e=>h e.symm),if_neg (by omega)]
  ·rw[if_neg hx];simp only[Yg]
   by_cases h:x.1=i
   ·rw[if_pos h,if_neg (by omega),if_pos h]
   ·rw[if_neg h,ih,if_neg h]
abbrev keys(l:List (Nat×α)):List Nat:=l.map (·.1)
theorem Je{k:Nat}{l:List (Nat×α)}:Yg k l=none↔k∉keys l:=by
 induction l with
 | nil=>simp[Yg]
 | cons x l ih=>
  simp only[Yg,keys,List.map_cons,List.mem_cons,not_or]
  by_cases h:x.1=k
  ·rw[if_pos h];simp[h]
  ·rw[if_neg h,ih];exact⟨fun h2=>⟨fun e=>h e.symm,h2⟩,fun h2=>h2.2⟩
theorem Eb{k:Nat}{v:α}{l:List (Nat×α)}(h:Yg k l=some v):(k,v)∈l:=by
 induction l with
 | nil=>cases h
 | cons x l ih=>
  simp only[Yg]at h
  split at h
  ·rename_i e;cases h;exact List.mem_cons.2 (.inl (by rw[←e]))
  ·exact List.mem_cons_of_mem _ (ih h)
theorem U3{k:Nat}{v:α}{l:List (Nat×α)}(hn:(keys l).Nodup)(h:(k,v)∈l):Yg k l=some v:=by
 induction l with
 | nil=>cases h
 | cons x l ih=>
  simp only[keys,List.map_cons,List.nodup_cons]at hn;simp only[Yg]
  rcases List.mem_cons.1 h with e|h
  ·rw[if_pos (by rw[←e]),←e]
  ·rw[if_neg (fun e=>hn.1 (List.mem_map.2 ⟨_,h,e.symm⟩)),ih hn.2 h]
theorem Qip(k:Nat)(l:List (Nat×α)):(Ha k l).Sublist l:=by
 induction l with
 | nil=>exact List.Sublist.refl _
 | cons x l ih=>
  unfold Ha
  split
  ·exact List.sublist_cons_self _ _
  ·exact ih.cons_cons _
theorem Qq5(k:Nat){l:List (Nat×α)}(h:(keys l).Nodup):(keys (Ha k l)).Nodup:=((Qip k l).map _).nodup h
theorem Qvh(k:Nat){l:List (Nat×α)}(hn:(keys l).Nodup)(i:Nat):Yg i (Ha k l)=if i=k then none else Yg i l:=by
 induction l with
 | nil=>simp[Ha,Yg]
 | cons x l ih=>
  simp only[keys,List.map_cons,List.nodup_cons]at hn;unfold Ha
  by_cases hx:x.1=k
  ·rw[if_pos hx]
   by_cases h:i=k
   ·rw[if_pos h];exact Je.2 (by rw[h,←hx];exact hn.1)
   ·rw[if_neg h];simp only[Yg];rw[if_neg (by omega)]
  ·rw[if_neg hx];simp only[Yg]
   by_cases h:x.1=i
   ·rw[if_pos h,if_neg (by omega),if_pos h]
   ·rw[if_neg h,ih hn.2,if_neg h]
theorem Qf2{k:Nat}{v:α}{l:List (Nat×α)}{i:Nat}:i∈keys (Xl k v l)↔i=k∨i∈keys l:=by
 have h1:=Jp k v l i
 constructor
 ·intro h
  by_cases e:i=k
  ·exact .inl e
  ·rw[if_neg e]at h1;refine .inr (Classical.byContradiction fun h2=>?_);rw[Je.2 h2]at h1;exact Je.1 h1 h
 ·intro h;refine Classical.byContradiction fun h2=>?_;rw[Je.2 h2]at h1
  rcases h with h|h
  ·rw[if_pos h]at h1;cases h1
  ·by_cases e:i=k
   ·rw[if_pos e]at h1;cases h1
   ·rw[if_neg e]at h1;exact Je.1 h1.symm h
theorem J9(k:Nat)(v:α){l:List (Nat×α)}(hn:(keys l).Nodup):(keys (Xl k v l)).Nodup:=by
 induction l with
 | nil=>simp[Xl,keys]
 | cons x l ih=>
  have hn':=hn;simp only[keys,List.map_cons,List.nodup_cons]at hn;unfold Xl
  split
  ·rename_i e;simp only[keys,List.map_cons,List.nodup_cons];rw[←e];exact hn
  ·rename_i e;show (x.1::keys (Xl k v l)).Nodup;rw[List.nodup_cons];refine⟨fun h=>?_,ih hn.2⟩
   rcases Qf2.1 h with h|h
   ·exact e h
   ·exact hn.1 h
theorem Va{k:Nat}{v:α}{l:List (Nat×α)}{y:Nat×α}(h:y∈Xl k v l):y=(k,v)∨(y∈l):=by
 induction l with
 | nil=>exact .inl (List.mem_singleton.1 h)
 | cons x l ih=>
  unfold Xl at h
  split at h
  ·rcases List.mem_cons.1 h with h|h
   ·exact .inl h
   ·exact .inr (List.mem_cons_of_mem _ h)
  ·rcases List.mem_cons.1 h with h|h
   ·exact .inr (by rw[h];exact List.mem_cons_self ..)
   ·rcases ih h with h|h
    ·exact .inl h
    ·exact .inr (List.mem_cons_of_mem _ h)
theorem Gm{k:Nat}{l:List (Nat×α)}{y:Nat×α}(h:y∈Ha k l):y∈l:=(Qip k l).mem h
end
def Vk(l:Rs):Prop:=∀y∈l,y.2.run=false
def U2(l:Rs):Prop:=∀y∈l,∀z∈l,y.2.run=true→z.2.run=true→y.1=z.1
theorem Vk.one{l:Rs}(h:Vk l):U2 l:=fun y hy _ _ h1 _=>by rw[h y hy]at h1;cases h1
theorem E3{l:Rs}(h:Vk l):Qz l=0:=by
 unfold Qz;have:l.find? (·.2.run)=none:=List.find?_eq_none.2 fun y hy=>by rw[h y hy];decide
 rw[this]
theorem Kv{l:Rs}(h:Qz l≠0):∃r,(Qz l,r)∈l∧r.run=true:=by
 unfold Qz at h ⊢;cases hf:l.find? (·.2.run) with
 | none=>rw[hf]at h;exact absurd rfl h
 | some x=>exact⟨x.2,List.mem_of_find?_eq_some hf,by have h9:=List.find?_some hf;exact h9⟩
def pos(l:Rs):Prop:=∀y∈l,y.1≠0
theorem E2{l:Rs}(hp:pos l)(h:Qz l=0):Vk l:=fun y hy=>by
 cases hr:y.2.run with
 | false=>rfl
 | true=>
  exfalso;unfold Qz at h;cases hf:l.find? (·.2.run) with
  | none=>exact absurd hr (by simpa using List.find?_eq_none.1 hf y hy)
  | some x=>rw[hf]at h;exact hp x (List.mem_of_find?_eq_some hf) h
theorem Qy0{l:Rs}(hn:(keys l).Nodup)(h:U2 l):amB l=true:=by
 refine decide_eq_true ?_;have h2:(l.filter (·.2.run)).Pairwise fun y z=>y.1≠z.1:=List.Pairwise.sublist List.filter_sublist (List.pairwise_map.1 (List.nodup_iff_pairwise_ne.1 hn));cases hf:l.filter (·.2.run) with
 | nil=>exact Nat.zero_le _
 | cons y m=>
  cases m with
  | nil=>exact Nat.le_refl _
  | cons z m=>
   rw[hf]at h2;have hy:y∈l.filter (·.2.run):=by rw[hf];exact List.mem_cons_self ..
   have hz:z∈l.filter (·.2.run):=by rw[hf];exact List.mem_cons_of_mem _ (List.mem_cons_self ..)
   obtain⟨y1,y2⟩:=List.mem_filter.1 hy;obtain⟨z1,z2⟩:=List.mem_filter.1 hz;exact absurd (h y y1 z z1 y2 z2) ((List.pairwise_cons.1 h2).1 z (List.mem_cons_self ..))
theorem Qh6{l:Rs}{j:Nat}{r:Rk}(h1:U2 l)(hp:pos l)(hm:(j,r)∈l)(hr:r.run=true):Qz l=j:=by
 have h0:Qz l≠0:=fun e=>by
  have:=E2 hp e (j,r) hm;rw[hr]at this;cases this
 obtain⟨r2,h2,h3⟩:=Kv h0;exact h1 _ h2 _ hm h3 hr
theorem Qsn{nd:Nd}{x:Nt}(h:nd.Qf=true):(Q8 nd x).Qf=true:=by
 unfold Q8
 split
 ·simp[h]
 split
 ·split <;> simp[h]
 split
 ·split
  ·split <;> simp[h]
  ·simp[h]
 split
 ·split <;> simp[h]
 split <;> simp[h]
theorem Qm9{l:List Nt}:∀ {nd:Nd},nd.Qf=true→(l.foldl Q8 nd).Qf=true:=by
 induction l with
 | nil=>exact fun h=>h
 | cons x l ih=>exact fun h=>ih (Qsn h)
theorem Qna{l m:List Nt}{nd:Nd}(h:((l++m).foldl Q8 nd).Qf=false):(l.foldl Q8 nd).Qf=false:=by
 rw[List.foldl_append]at h;cases hw:(l.foldl Q8 nd).Qf with
 | false=>rfl
 | true=>rw[Qm9 hw]at h;cases h
abbrev core(nd:Nd):Rs×Bool:=(nd.rk,nd.Qf)
theorem Qke{a b:Nd}(h:core a=core b)(x:Nt):core (Q8 a x)=core (Q8 b x):=by
 obtain⟨h1,h2⟩:=Prod.mk.inj h;unfold Q8;rw[h1,h2]
 by_cases k3:x.kind=3
 ·simp only[if_pos k3]
 simp only[if_neg k3]
 by_cases k5:x.kind=5
 ·simp only[if_pos k5];cases Yg x.Qm b.rk <;> rfl
 simp only[if_neg k5]
 by_cases k6:x.kind=6
 ·simp only[if_pos k6]
  by_cases hr:Qz b.rk≠0
  ·simp only[if_pos hr];cases Yg (Qz b.rk) b.rk <;> first|rfl|simp[h1,h2]
  ·simp only[if_neg hr]
 simp only[if_neg k6]
 by_cases k8:x.kind=8
 ·simp only[if_pos k8];cases Yg x.Qm b.rk <;> rfl
 simp only[if_neg k8]
 by_cases k10:x.kind=10
 ·simp only[if_pos k10]
 simp only[if_neg k10];simp[h1,h2]
theorem Qeu{l:List Nt}:∀ {a b:Nd},core a=core b→core (l.foldl Q8 a)=core (l.foldl Q8 b):=by
 induction l with
 | nil=>exact fun h=>h
 | cons x l ih=>exact fun h=>ih (Qke h x)
def fin(rk:Rs)(q:List Nt):Nd:=q.foldl Q8 ⟨true,rk,[],[],false⟩
theorem Qjs(rk:Rs)(q:List Nt)(x:Nt):fin rk (q++[x])=Q8 (fin rk q) x:=by
 unfold fin;rw[List.foldl_append];rfl
theorem Qxu(nd:Nd)(x:Nt)(q:List Nt)(hw:(Q8 nd x).Qf=false):core (fin (Q8 nd x).rk q)=core (q.foldl Q8 (Q8 nd x)):=by
 unfold fin;exact Qeu (by rw[core,core,hw])
abbrev jT(ps:Nat→Nat)(js:List Bj)(i:Nat):Assn:=alls (js.take i) (jI ps)
abbrev jD(ps:Nat→Nat)(js:List Bj)(i:Nat):Assn:=alls (js.drop (i+1)) (jI ps)
abbrev jX(p:Nat)(x:Bj)(av:SV)(lb db rb sb:Option Nat)(Γ:List Assn):List Assn:=
 blk p 90 (bjC x av lb db rb sb).toArray::own av 3 1 (nds x.at_)::Xz lb x.Y4::Xz db x.Qi::Dd rb x.ran::Ue sb x.id x.Yt::Γ
structure JF(x:Bj)(av:SV)(lb db rb sb:Option Nat):Prop where
 an:av.n=x.at_.length
 l:lb.isSome=x.Y4.isSome
 d:db.isSome=x.Qi.isSome
 r:rb.isSome=x.ran.isSome
 s:sb.isSome=x.Yt.isSome
abbrev bR(b:Nat)(st:Br)(ps:Nat→Nat)(ub jb mb:Nat)(ov iv dv mv:SV)(sb:Option Nat)(l:List (Int×Value))(i:Nat)(Γ:List Assn):List Assn:=
 blk b 84 (bC st ub jb mb ov iv dv mv sb).toArray::Qk ub .i64 (Xy st.up)::Qk jb .u32 l::jT ps st.js i::jD ps st.js i::MI mb st.m::own ov 97 14 (st.Qa.flatMap odC)::imgs iv st.Qe::own dv 31 1 (Q9 st.done)::own mv 31 1 (Q9 st.members)::Xz sb st.stops::Γ
theorem Ent.third(A B C:Assn)(Γ:List Assn):Ent (A::B::C::Γ) (C::A::B::Γ):=((Ent.swap B C Γ).cons A).trans (Ent.swap A C _)
theorem Ent.focus{b:Nat}{st:Br}{ps:Nat→Nat}{ub jb mb:Nat}{ov iv dv mv:SV}{sb:Option Nat}{l:List (Int×Value)}{i:Nat}{x:Bj}(hx:st.js[i]?=some x)(Γ:List Assn) :
  Ent (bX b st ps ub jb mb ov iv dv mv sb l Γ) (JI (ps x.id) x::bR b st ps ub jb mb ov iv dv mv sb l i Γ):=by
 have h1:Ent (alls st.js (jI ps)::MI mb st.m::own ov 97 14 (st.Qa.flatMap odC)::imgs iv st.Qe::own dv 31 1 (Q9 st.done)::own mv 31 1 (Q9 st.members)::Xz sb st.stops::Γ) (JI (ps x.id) x::jT ps st.js i::jD ps st.js i::MI mb st.m::own ov 97 14 (st.Qa.flatMap odC)::imgs iv st.Qe::own dv 31 1 (Q9 st.done)::own mv 31 1 (Q9 st.members)::Xz sb st.stops::Γ):=Ent.Wp (jI ps) hx _;exact((((h1.cons _).cons _).cons _).trans (((Ent.swap _ _ _).cons _).cons _)).trans (((Ent.swap _ _ _).cons _).trans (Ent.swap _ _ _))
theorem Ent.unfocus{b:Nat}{st:Br}{ps:Nat→Nat}{ub jb mb:Nat}{ov iv dv mv:SV}{sb:Option Nat}{l:List (Int×Value)}{i:Nat}{x x':Bj}(hx:st.js[i]?=some x)(hid:x'.id=x.id)(Q5:Yo st.js x'=st.js.set i x')(hF:BF (st.set x') ps ov iv dv mv sb l)(Γ:List Assn) :
  Ent (JI (ps x.id) x'::bR b st ps ub jb mb ov iv dv mv sb l i Γ) (BP b (st.set x') ps::Γ):=by
 have h1:Ent (JI (ps x.id) x'::jT ps st.js i::jD ps st.js i::MI mb st.m::own ov 97 14 (st.Qa.flatMap odC)::imgs iv st.Qe::own dv 31 1 (Q9 st.done)::own mv 31 1 (Q9 st.members)::Xz sb st.stops::Γ) (alls (st.js.set i x') (jI ps)::MI mb st.m::own ov 97 14 (st.Qa.flatMap odC)::imgs iv st.Qe::own dv 31 1 (Q9 st.done)::own mv 31 1 (Q9 st.members)::Xz sb st.stops::Γ):=by
  rw[←hid];exact Ent.Yl (jI ps) (x':=x') hx _
 have h2:Ent (bX b (st.set x') ps ub jb mb ov iv dv mv sb l Γ) (BP b (st.set x') ps::Γ):=Ent.bp hF Γ;have h3:(st.set x').js=st.js.set i x':=Q5;rw[←h3]at h1;exact(((Ent.swap _ _ _).trans ((Ent.swap _ _ _).cons _)).trans (((Ent.swap _ _ _).cons _).cons _)).trans ((((h1.cons _).cons _).cons _).trans h2)
theorem Ent.ungone{b:Nat}{st st':Br}{ps:Nat→Nat}{ub jb mb:Nat}{ov iv dv mv:SV}{sb:Option Nat}{l:List (Int×Value)}{i:Nat}(Ld:st'.js=st.js.eraseIdx i)(hF:BF st' ps ov iv dv mv sb l)(Γ:List Assn) :
  Ent (bR b {st' with js:=st.js} ps ub jb mb ov iv dv mv sb l i Γ) (BP b st' ps::Γ):=by
 have h1:∀Θ:List Assn,Ent (jT ps st.js i::jD ps st.js i::Θ) (alls st'.js (jI ps)::Θ):=fun Θ=>by
  rw[Ld,List.eraseIdx_eq_take_drop_succ];exact Ent.Gz _ _ _ _
 have h2:Ent (bX b st' ps ub jb mb ov iv dv mv sb l Γ) (BP b st' ps::Γ):=Ent.bp hF Γ;exact((((h1 _).cons _).cons _).cons _).trans h2
section
variable {n:Nat}{md:Bool}{w0:WM md}{ρ:Env}{Γ Δ:List Assn}{φ:Act→World→Prop}
theorem S.Yw(b:Nat){T:TypeId}{cs:Array Value}(cs':Array Value)[h:Et Γ b T cs Δ](e:cs=cs')(k:S n w0 ρ (blk b T cs'::Δ) φ):S n w0 ρ Γ φ:=S.Qh h.Qh (e ▸ k)
theorem S.Wv(b:Nat)(st:Br)(ps:Nat→Nat)(x:Bj)(hx:Qg st.js x.id=some x)[p:Pick (BP b st ps) Γ Δ] (k:∀ub jb mb ov iv dv mv sb l i av lb db rb qb,BF st ps ov iv dv mv sb l→st.js[i]?=some x→(∀y:Bj,y.id=x.id→Yo st.js y=st.js.set i y)→rmJ st.js x.id=st.js.eraseIdx i→JF x av lb db rb qb →
  S n w0 ρ (jX (ps x.id) x av lb db rb qb (bR b st ps ub jb mb ov iv dv mv sb l i Δ)) φ):S n w0 ρ Γ φ:=by
 refine S.Xx b st ps fun ub jb mb ov iv dv mv sb l hF=>?_;obtain⟨i,h1,h2,h3⟩:=Bt hF.ok.Yz hx;refine S.Qh (Ent.focus h1 Δ) ?_;refine S.Qgc (ps x.id) x fun av lb db rb qb q1 q2 q3 q4 q5=>?_;exact k ub jb mb ov iv dv mv sb l i av lb db rb qb hF h1 h2 h3 ⟨q1,q2,q3,q4,q5⟩
theorem S.Qn(b:Nat)(st:Br)(ps:Nat→Nat)(ub jb mb:Nat)(ov iv dv mv:SV)(sb:Option Nat)(l:List (Int×Value))(i:Nat){x:Bj}(x':Bj)(av:SV)(lb db rb qb:Option Nat)(hx:st.js[i]?=some x)(hid:x'.id=x.id)(Q5:Yo st.js x'=st.js.set i x')(hF:BF (st.set x') ps ov iv dv mv sb l)(hJ:JF x' av lb db rb qb)
  [q:Picks (jX (ps x.id) x' av lb db rb qb (bR b st ps ub jb mb ov iv dv mv sb l i [])) Γ Δ] (k:S n w0 ρ (BP b (st.set x') ps::Δ) φ):S n w0 ρ Γ φ:=by
 refine S.Qh ?_ k
 have h1:Ent (jX (ps x.id) x' av lb db rb qb (bR b st ps ub jb mb ov iv dv mv sb l i Δ)) (JI (ps x.id) x'::bR b st ps ub jb mb ov iv dv mv sb l i Δ):=
  (Ent.pack (jX (ps x.id) x' av lb db rb qb []) _).trans (Ent.W9 _ fun _ s=>⟨av,lb,db,rb,qb,hJ.an,hJ.l,hJ.d,hJ.r,hJ.s,s⟩)
 exact q.Qh.trans (h1.trans (Ent.unfocus hx hid Q5 hF Δ))
end
theorem Q7.set{st:Br}(h:Q7 st){x:Bj}(hx:JOk st.nodes x):Q7 (st.set x):=⟨h.R,h.N,h.Hu,Q0h h.Yz x,fun y hy=>by
 obtain⟨z,hz,e⟩:=List.mem_map.1 hy
 have hj:JOk st.nodes y:=by
  rw[←e]
  split
  ·exact hx
  ·exact h.Qm z hz
 exact hj,by show (Yo st.js x).length≤_;rw[Jk];exact h.Ev,h.q1,h.q2,h.g1,h.g2,h.now,h.fin,h.mem,h.Eu⟩
theorem BF.set{st:Br}{ps:Nat→Nat}{ov iv dv mv:SV}{sb:Option Nat}{l:List (Int×Value)}(h:BF st ps ov iv dv mv sb l){x:Bj}(hx:JOk st.nodes x):BF (st.set x) ps ov iv dv mv sb l:=⟨h.ok.set hx,by show l.Perm ((Yo st.js x).map (jE ps));rw[Ql0];exact h.perm,h.on,h.im,h.dn,h.mn,h.sn⟩
theorem Q7.at_{st:Br}(h:Q7 st){x:Bj}(hx:Qg st.js x.id=some x):JOk st.nodes x:=h.Qm x (Qd hx).1
theorem Qjn(b:Nat)(s:List Nat)(n:Nat):Spec Tryz.prog 73 [.map (some b),.int .i64 (n:Int)] [Qk b .i64 (Xy s)] fun Γ v Θ=>v=.bool (decide (n∈s))∧Θ=Qk b .i64 (Xy s)::Γ:=by
 refine Zbd Tryz.func73 rfl Tryz.ntmps73 fun w0 Γ=>Zsh (ZY 8 ?_);refine Zv (E6 (.agg #[]) (decide (n∈s)) Tryz.underlying81 Tryz.underlying3 Tryz.Qtc.h rfl rfl rfl (by rw[Qt2];by_cases h:n∈s;(rw[if_pos h,decide_eq_true h]);(rw[if_neg h,decide_eq_false h]))) (ZY 3 (Zp (S.alloc Tryz.Qte.h rfl ?_)));intro b5;refine Zp (Zs ef ef (cs':=[]) ef (ZY 8 ?_));exact Zf ef Zq (⟨rfl,rfl⟩)
theorem Q8c(n:Int):Spec Tryz.prog 73 [.map none,.int .i64 n] [] fun Γ v Θ=>v=.bool false∧Θ=Γ:=by
 refine Zbd Tryz.func73 rfl Tryz.ntmps73 fun w0 Γ=>Zsh (ZY 8 (Zv (Qif Tryz.underlying81 Tryz.underlying3 Tryz.Qtc.h rfl rfl rfl) (ZY 3 (Zp (S.alloc Tryz.Qte.h rfl ?_)))));intro b5;refine Zp (Zs ef ef (cs':=[]) ef (ZY 8 ?_));exact Zf ef Zq (⟨rfl,rfl⟩)
theorem Qgn(b:Option Nat)(s:Option (List Nat))(n:Nat):Spec Tryz.prog 73 [.map b,.int .i64 (n:Int)] [Xz b s] fun Γ v Θ=>v=.bool (decide (n∈s.getD []))∧Θ=Xz b s::Γ:=by
 cases b with
 | none=>
  cases s with
  | none=>exact fun Γ w hs=>Q8c n (Xz none none::Γ) w hs |>.mono fun e w' h=>h
  | some s=>exact fun Γ w hs=>absurd hs.Q4m (by simp)
 | some b=>
  cases s with
  | none=>exact fun Γ w hs=>absurd hs.Q4m (by simp)
  | some s=>exact Qjn b s n
theorem Qj8(b:Nat)(s:List Nat)(n:Nat):Spec Tryz.prog 38 [.map (some b),.int .i64 (n:Int)] [Qk b .i64 (Xy s)] fun Γ _ Θ=>Θ=Qk b .i64 (Xy (Yj s n))::Γ:=by
 refine Zbd Tryz.func38 rfl Tryz.ntmps38 fun w0 Γ=>Zsh (ZY 3 ?_);refine Zv (Q3 (pvs:=[]) [] Tryz.Qte.h Tryz.Zaq.h trivial rfl) (Zp (S.mapUpdate Tryz.underlying81 Tryz.underlying3 rfl rfl rfl rfl ?_));rw[Qt1];refine Zy ?_;exact Zfn ef Zq (rfl)
theorem Fg(b:Nat)(st:Br)(ub jb mb:Nat)(ov iv dv mv:SV)(sb:Option Nat)(n:Nat)(x:Nt)(os:List Od)(hov:ov.n=os.length)(hl:os.length≤1000000):Spec Tryz.prog 74 [pt b,.int .i64 (n:Int),.agg (ntC x SV.nil).toArray] [blk b 84 (bC st ub jb mb ov iv dv mv sb).toArray,own ov 97 14 (os.flatMap odC)] fun Γ _ Θ=>
  ∃ov2:SV,ov2.n=(os++[(n,x)]).length∧Θ=blk b 84 (bC st ub jb mb ov2 iv dv mv sb).toArray::own ov2 97 14 ((os++[(n,x)]).flatMap odC)::Γ:=by
 refine Zbd Tryz.func74 rfl Tryz.ntmps74 fun w0 Γ=>Zsh ?_;have hlen:(os++[((n,x):Od)]).length=os.length+1:=by simp
 refine ZY 2 (Zp (S.box (cs:=[_,_,_,_,_,_,_,_,_,_,_,_,_]) rfl rfl rfl ?_));intro b5;refine Zy ?_;refine Zd ([blk b5 72 (ntC x SV.nil).toArray,blk b 84 (bC st ub jb mb ov iv dv mv sb).toArray]) [12] (Zra 0 8) (ZY 7 ?_);refine Zw ef (Q3 (pvs:=[(_,_),(_,_)]) [_,_,_,_,_,_,_,_,_,_,_,_,_,_] Tryz.z97.h Tryz.p97.h ⟨⟨rfl,rfl⟩,⟨rfl,rfl⟩,trivial⟩ rfl) ?_;refine Z1 (i:=8) ef ef ?_;refine(S.buildSlice (pvs:=[(_,_)]) [_,_,_,_,_,_,_,_,_,_,_,_,_,_] Tryz.underlying37 Tryz.Qwd.h rfl rfl ⟨⟨rfl,rfl⟩,trivial⟩ rfl rfl ?_);intro b14;refine Zk [] ?_;refine Z1 (i:=9) ef ef ?_;refine(S.Qu (s:=ov) (1) (odC (n,x)) Tryz.underlying37 Tryz.Qwd.h rfl rfl rfl (Qy (b:=b14) rfl (by unfold maxLen;omega)) (by first|rfl|exact Ql _) (⟨by omega,by omega⟩) rfl ?_);intro ov2 Wf;refine Zk [10,11] (ZY 2 ?_);refine Z1 (i:=12) ef ef ?_;refine(S.store (cs':=[_,_,_,_,_,_,_,_,_,_,_,_,_,_,_,_,_,_]) Eo.h rfl rfl rfl rfl rfl ?_);refine ZL ([]) [] ?_;refine ZD ?_;rw[Xg odC os ((n,x):Od)];exact Zfn ef Zq (⟨ov2,by omega,rfl⟩)
end BN
theorem Ent.Qqz{q:Nat}{s:Option (List Nat)}{d:List Nat}(h:s=some d)(Γ:List Assn):Ent (Xz (some q) s::Γ) (Qk q .i64 (Xy d)::Γ):=by rw[h];exact Ent.refl _
theorem Ent.Qcv{q:Nat}{s:Option (List Nat)}{d:List Nat}(h:s=some d)(Γ:List Assn):Ent (Qk q .i64 (Xy d)::Γ) (Xz (some q) s::Γ):=by rw[h];exact Ent.refl _
namespace BN
theorem Nu(Γ:List Assn):Ent Γ (Dd none none::Γ):=fun h hs=>⟨HL.emp,h,HL.Ul _,HL.U6 _,HL.le.refl _,trivial,hs⟩
theorem L6(id:Nat)(Γ:List Assn):Ent Γ (Ue none id none::Γ):=fun h hs=>⟨HL.emp,h,HL.Ul _,HL.U6 _,HL.le.refl _,trivial,hs⟩
theorem Bl(m:Mx)(j:Nat):(Z0 m j).2.R=m.R∧(Z0 m j).2.N=m.N:=by
 unfold Z0;split <;> exact⟨rfl,rfl⟩
theorem Qal{m:Mx}(hm:Xk m)(j:Nat):Xk (Z0 m j).2:=by
 unfold Z0
 split
 ·exact hm.del j
 ·exact hm
theorem Q7.mset{st:Br}(h:Q7 st){m:Mx}(hm:Xk m)(hR:m.R=st.m.R)(hN:m.N=st.m.N):Q7 {st with m:=m}:=⟨by rw[hR];exact h.R,by rw[hN];exact h.N,hm,h.Yz,fun x hx=>h.Qm x hx,h.Ev,h.q1,h.q2,h.g1,h.g2,h.now,h.fin,h.mem,h.Eu⟩
theorem Q7.jset{st:Br}(h:Q7 st){js:List Bj}(hs:Kp js)(hj:∀x∈js,JOk st.nodes x)(hl:js.length≤1000):Q7 {st with js:=js}:=⟨h.R,h.N,h.Hu,hs,fun x hx=>hj x hx,hl,h.q1,h.q2,h.g1,h.g2,h.now,h.fin,h.mem,h.Eu⟩
theorem Q7.oset{st:Br}(h:Q7 st)(os:List Od):Q7 {st with Qa:=os}:=⟨h.R,h.N,h.Hu,h.Yz,fun x hx=>h.Qm x hx,h.Ev,h.q1,h.q2,h.g1,h.g2,h.now,h.fin,h.mem,h.Eu⟩
theorem Q7.dset{st:Br}(h:Q7 st)(ds:List Nat):Q7 {st with done:=ds}:=⟨h.R,h.N,h.Hu,h.Yz,fun x hx=>h.Qm x hx,h.Ev,h.q1,h.q2,h.g1,h.g2,h.now,h.fin,h.mem,h.Eu⟩
theorem Qq{st:Br}(h:Q7 st){x:Bj}(hx:Qg st.js x.id=some x):st.set x=st:=by
 have:=Qqg h.Yz hx;show {st with js:=Yo st.js x}=st;rw[this]
abbrev anew(x:Bj):Bj:={id:=x.id,tier:=x.tier,k:=x.k,w:=x.w,state:=0,Qb:=x.Qb,work:=x.Qb,ver:=x.ver}
theorem JOk.anew{N:Nat}{x:Bj}(h:JOk N x):JOk N (anew x):=⟨h.B6,h.Al,h.tier,h.k1,h.kn,h.w,h.cr,h.cr,List.Pairwise.nil,fun n hn=>(by cases hn),fun d hd=>(by cases hd),fun d hd=>(by cases hd),fun r hr=>(by cases hr),fun e=>absurd (show (0:Nat)=1 from e) (by decide),fun s hs=>(by cases hs)⟩
theorem Ek{st:Br}(h:Q7 st){x:Bj}(hx:JOk st.nodes x):Q7 (Z6 st x):=by
 unfold Z6;have hm:=h.mset (Qal h.Hu x.id) (Bl _ _).1 (Bl _ _).2
 split
 ·split
  ·exact hm.set (x:=BN.anew x) hx.anew
  ·exact hm.jset (js:=rmJ st.js x.id) (Q6g h.Yz _) (fun y hy=>h.Qm y ((List.mem_filter.1 hy).1)) (Nat.le_trans (List.length_filter_le _ _) h.Ev)
 ·exact h.set hx
theorem K7(st:Br)(x:Bj):(Z6 st x).Qa=st.Qa∧(Z6 st x).Qe=st.Qe∧(Z6 st x).done=st.done∧(Z6 st x).nodes=st.nodes∧(Z6 st x).up=st.up:=by
 unfold Z6
 split
 ·split <;> exact⟨rfl,rfl,rfl,rfl,rfl⟩
 ·exact⟨rfl,rfl,rfl,rfl,rfl⟩
theorem Qgo(b:Nat)(st:Br)(ps:Nat→Nat)(x:Bj)(hx:Qg st.js x.id=some x):Spec Tryz.prog 53 [pt b,pt (ps x.id)] [BP b st ps] fun Γ _ Θ=>Θ=BP b (Z6 st x) ps::Γ:=by
 refine Spec.Us fun hok=>?_;have Y5:=hok.at_ hx;cases hd:x.Qi with
 | none=>
  have hg:Z6 st x=st.set x:=by rw[Z6,hd,if_neg (by simp)]
  refine Zbd Tryz.func53 rfl Tryz.ntmps53 fun w0 Γ=>Zsh ?_;refine S.Wv b st ps x hx fun ub jb mb ov iv dv mv sb l i av lb db rb qb hF hi Q5 Ld hJ=>?_;have hdb:db=none:=by have:=hJ.d;rw[hd]at this;cases db with|none=>rfl|some q=>cases this
  subst hdb;refine ZY 7 (Zv (Ky Tryz.underlying81 rfl rfl) (ZY 8 (ZY 3 (S.Qn b st ps ub jb mb ov iv dv mv sb l i x av lb none rb qb hi rfl (Q5 x rfl) (hF.set Y5) hJ ?_))));exact Zf ef Zq (by rw[hg])
 | some d=>
  refine Zbd Tryz.func53 rfl Tryz.ntmps53 fun w0 Γ=>Zsh ?_;refine S.Wv b st ps x hx fun ub jb mb ov iv dv mv sb l i av lb db rb qb hF hi Q5 Ld hJ=>?_;obtain⟨q,hq⟩:∃q,db=some q:=by have:=hJ.d;rw[hd]at this;cases db with|none=>cases this|some q=>exact⟨q,rfl⟩
  subst hq;refine S.conv (Xz (some q) x.Qi) (Ent.Qqz hd _) ?_;have hml:=F5 d;refine ZY 7 (Zv (Ky Tryz.underlying81 rfl rfl) (ZY 8 (Zy ?_)))
  refine Zj ef (fun h1=>?_) (fun h1=>?_)
  ·have hg:Z6 st x=st.set x:=by rw[Z6,hd,if_neg (fun e=>by rw[Option.some.inj e]at h1;exact absurd h1 (by decide))]
   refine S.conv (Qk q .i64 (Xy d)) (Ent.Qcv hd _) (Zy (S.Qn b st ps ub jb mb ov iv dv mv sb l i x av lb (some q) rb qb hi rfl (Q5 x rfl) (hF.set Y5) hJ ?_));exact Zf ef Zq (by rw[hg])
  ·have hd0:x.Qi=some []:=by rw[hd];congr;exact List.eq_nil_of_length_eq_zero (by omega)
   have hm:=hok.mset (Qal hok.Hu x.id) (Bl _ _).1 (Bl _ _).2;refine ZY 2 ?_;refine Zd ([blk (ps x.id) 90 (bjC x av lb (some q) rb qb).toArray,blk b 84 (bC st ub jb mb ov iv dv mv sb).toArray]) [] (Zra 0 9) (ZY 8 (Zy ?_));refine Z1 (i:=9) ef ef ?_;refine  (Zcp Ze (Qkh mb st.m x.id) ?_);refine Zk [] ?_;refine ZD (ZY 8 (Zy ?_))
   refine Zi ef (fun h2=>?_) (fun h2=>?_)
   ·have ha:x.again=false:=by simpa using h2
    have hg:Z6 st x={st with m:=(Z0 st.m x.id).2,js:=rmJ st.js x.id}:=by rw[Z6,if_pos hd0,if_neg (by rw[ha];decide)]
    refine Zy ?_;refine Zd ([blk (ps x.id) 90 (bjC x av lb (some q) rb qb).toArray,blk b 84 (bC st ub jb mb ov iv dv mv sb).toArray]) [] (Zra 0 9) (ZY 8 (Zy ?_));refine Z1 (i:=9) ef ef ?_;refine(S.Jf Tryz.underlying82 Tryz.underlying31 rfl rfl rfl ?_);refine Zk [] ?_;refine ZD (Zy ?_);have hF2:BF {st with m:=(Z0 st.m x.id).2,js:=rmJ st.js x.id} ps ov iv dv mv sb (Ko (x.id:Int) l):=⟨by rw[←hg];exact Ek hok Y5,Za1 hok.Yz hF.perm hx,hF.on,hF.im,hF.dn,hF.mn,hF.sn⟩;refine S.sub (bR b {st with m:=(Z0 st.m x.id).2} ps ub jb mb ov iv dv mv sb (Ko (x.id:Int) l) i Γ) (S.Qh (Ent.ungone (st:=st) (st':={st with m:=(Z0 st.m x.id).2,js:=rmJ st.js x.id}) Ld hF2 Γ) ?_);exact Zf ef Zq (by rw[hg])
   ·have ha:x.again=true:=by simpa using h2
    have hg:Z6 st x=Br.set {st with m:=(Z0 st.m x.id).2} (anew x):=by rw[Z6,if_pos hd0,if_pos ha]
    refine ZY 2 ?_;refine Zd ([blk (ps x.id) 90 (bjC x av lb (some q) rb qb).toArray]) [16] (Zra 0 16) (ZY 8 (ZY 6 ?_));refine Zw ef (Q3 (pvs:=[(_,_),(_,_),(_,_)]) [_,_,_,_,_,_,_,_,_,_,_,_,_,_,_,_,_] Tryz.z90.h Tryz.p90.h ⟨⟨rfl,rfl⟩,⟨rfl,rfl⟩,⟨rfl,rfl⟩,trivial⟩ rfl) (Zy ?_);refine Z1 (i:=16) ef ef ?_;refine  (Zs ef ef (cs':=[_,_,_,_,_,_,_,_,_,_,_,_,_,_,_,_,_]) ef ?_);refine ZL ([]) [] ?_;refine ZD (ZY 7 ?_);have hF2:BF (Br.set {st with m:=(Z0 st.m x.id).2} (anew x)) ps ov iv dv mv sb l:=⟨by rw[←hg];exact Ek hok Y5,by show l.Perm ((Yo st.js (anew x)).map (jE ps));rw[Ql0];exact hF.perm,hF.on,hF.im,hF.dn,hF.mn,hF.sn⟩;refine S.Yw (ps x.id) (bjC (anew x) SV.nil none none none none).toArray rfl ?_;refine S.Qh (show Ent _ (own SV.nil 3 1 (nds (anew x).at_)::_) from Ent.Ye 3 1) (S.Qh ((Ent.Pg _).trans ((Ent.Pg _).trans ((Nu _).trans (L6 x.id _)))) (S.sub (jX (ps x.id) (anew x) SV.nil none none none none (bR b {st with m:=(Z0 st.m x.id).2} ps ub jb mb ov iv dv mv sb l i Γ)) ?_));refine S.Qn b {st with m:=(Z0 st.m x.id).2} ps ub jb mb ov iv dv mv sb l i (anew x) SV.nil none none none none hi rfl (Q5 (anew x) rfl) hF2 ⟨rfl,rfl,rfl,rfl,rfl⟩ ?_;exact Zfn ef Zq (by rw[hg])
theorem Que{l:List Nat}{N:Nat}(h:l.Pairwise (· < ·))(hN:∀n∈l,n<N):l.length≤N:=by
 have key:∀i,(hi:i<l.length)→i≤l[i]:=by
  intro i;induction i with
  | zero=>intro _;exact Nat.zero_le _
  | succ i ih=>
   intro hi;have h1:=ih (by omega);have h2:=List.pairwise_iff_getElem.1 h i (i+1) (by omega) hi (by omega);omega
 rcases Nat.eq_zero_or_pos l.length with e|e
 ·omega
 ·have h1:=key (l.length-1) (by omega);have h2:=hN _ (List.getElem_mem (show l.length-1<l.length by omega));omega
theorem Q7.Bz{st:Br}(h:Q7 st):st.nodes≤16:=by rw[←h.N];exact h.Hu.Bz
theorem JOk.len{N:Nat}{x:Bj}(h:JOk N x):x.at_.length≤N:=Que h.Jy h.at_
theorem Ej(st:Br){x y:Bj}(h:x.id=y.id):Z6 (st.set x) y=Z6 st y:=by
 unfold Z6 Br.set
 split
 ·split
  ·show ({st with m:=_,js:=Yo (Yo st.js x) _}:Br)=_;rw[Qac (x:=x) (y:=anew y) st.js h]
  ·show ({st with m:=_,js:=rmJ (Yo st.js x) y.id}:Br)=_;rw[←h,Q0p]
 ·show ({st with js:=Yo (Yo st.js x) y}:Br)=_;rw[Qac (x:=x) (y:=y) st.js h]
theorem set_set(st:Br){x y:Bj}(h:x.id=y.id):(st.set x).set y=st.set y:=by
 unfold Br.set;show ({st with js:=Yo (Yo st.js x) y}:Br)=_;rw[Qac (x:=x) (y:=y) st.js h]
theorem X5{x:Bj}{d:List Nat}(h:x.Qi=some d)(st:Br)(a:Bool):Y9 st x a=Z6 st (Vf x a d):=by rw[Y9,h]
theorem Xm{x:Bj}(h:x.Qi=none)(st:Br)(a:Bool):Y9 st x a=Z6 {st with Qa:=st.Qa++(V7 st x).map (Xp x.id)} (Vf x a (V7 st x)):=by rw[Y9,h]
theorem drop_set(st:Br){x y:Bj}(h:x.id=y.id)(a:Bool):Y9 (st.set x) y a=Y9 st y a:=by
 cases hd:y.Qi with
 | some d=>rw[X5 hd,X5 hd];exact Ej st h
 | none=>rw[Xm hd,Xm hd];exact Ej {st with Qa:=st.Qa++(V7 st y).map (Xp y.id)} (x:=x) h
theorem H5(st:Br){x:Bj}{z:Bj}(hz:Qg st.js x.id=some z):Qg (st.set x).js x.id=some x:=by
 show Qg (Yo st.js x) x.id=some x;rw[El,if_pos rfl,hz];rfl
theorem JOk.Vf{N:Nat}{x:Bj}(h:JOk N x)(a:Bool){ds:List Nat}(hd:ds.Nodup):JOk N (Vf x a ds):=⟨h.B6,h.Al,h.tier,h.k1,h.kn,h.w,h.cr,h.cr,h.Jy,h.at_,fun d e=>(by cases e;exact hd),h.lod,h.ran,fun e=>absurd (show (3:Nat)=1 from e) (by decide),fun s hs=>(by cases hs)⟩
theorem Au{N:Nat}{x:Bj}(h:JOk N x)(st:Br):(V7 st x).Nodup:=(h.Jy.imp fun h=>Nat.ne_of_lt h).filter _
theorem Qto(st:Br)(x:Bj):(V7 st x).length≤x.at_.length:=List.length_filter_le _ _
theorem Qjv{st:Br}(h:Q7 st){x:Bj}(hx:JOk st.nodes x)(a:Bool):Q7 (Y9 st x a):=by
 cases hd:x.Qi with
 | some d=>rw[X5 hd];exact Ek h (hx.Vf a (hx.drop d hd))
 | none=>rw[Xm hd];exact Ek (h.oset _) (x:=Vf x a (V7 st x)) (hx.Vf a (Au hx st))
theorem Gs(st:Br)(x:Bj)(a:Bool):(Y9 st x a).Qa.length≤st.Qa.length+x.at_.length∧(Y9 st x a).Qe=st.Qe∧(Y9 st x a).done=st.done∧(Y9 st x a).nodes=st.nodes∧(Y9 st x a).up=st.up:=by
 cases hd:x.Qi with
 | some d=>
  rw[X5 hd];obtain⟨h1,h2,h3,h4,h5⟩:=K7 st (Vf x a d);exact⟨by rw[h1];omega,h2,h3,h4,h5⟩
 | none=>
  rw[Xm hd];obtain⟨h1,h2,h3,h4,h5⟩:=K7 {st with Qa:=st.Qa++(V7 st x).map (Xp x.id)} (Vf x a (V7 st x));refine⟨?_,h2,h3,h4,h5⟩;rw[h1,List.length_append,List.length_map];have:=Qto st x;omega
theorem Qcb(b:Nat)(st:Br)(ps:Nat→Nat)(x:Bj)(a:Bool)(hx:Qg st.js x.id=some x)(hl:st.Qa.length≤900000):Spec Tryz.prog 52 [pt b,pt (ps x.id),.bool a] [BP b st ps] fun Γ _ Θ=>Θ=BP b (Y9 st x a) ps::Γ:=by
 refine Spec.Us fun hok=>?_;have Y5:=hok.at_ hx;have hN:=hok.Bz;have hal:=Y5.len;cases hd:x.Qi with
 | some d=>
  refine Zbd Tryz.func52 rfl Tryz.ntmps52 fun w0 Γ=>Zsh ?_;refine S.Wv b st ps x hx fun ub jb mb ov iv dv mv sb l i av lb db rb qb hF hi Q5 Ld hJ=>?_;obtain⟨q,hq⟩:∃q,db=some q:=by have:=hJ.d;rw[hd]at this;cases db with|none=>cases this|some q=>exact⟨q,rfl⟩
  subst hq;obtain⟨x1,Z4⟩:∃x1:Bj,x1=Vf x a d:=⟨_,rfl⟩;have Dy:JOk st.nodes x1:=by rw[Z4];exact Y5.Vf a (Y5.drop d hd)
  have hid:x1.id=x.id:=by rw[Z4]
  have hgo:Y9 st x a=Z6 (st.set x1) x1:=by rw[Ej st rfl,X5 hd,Z4]
  refine Zy ?_
  refine Zc (fun ρ' Γ'=>ρ'=[(0,pt b),(1,pt (ps x.id)),(2,.bool a)]∧Γ'=blk (ps x.id) 90 (bjC {x with again:=a&&!x.done} av lb (some q) rb qb).toArray::own av 3 1 (nds x.at_)::Xz lb x.Y4::Xz (some q) x.Qi::Dd rb x.ran::Ue qb x.id x.Yt::bR b st ps ub jb mb ov iv dv mv sb l i Γ) ?_ ?_
  ·refine ZY 4 ?_
   refine Zbb 10 ef (fun hg0_2=>?_) (fun hg0_2=>?_)
   ·refine ZY 8 (ZY 2 ?_);refine S.Yw (ps x.id) (bjC {x with again:=a&&!x.done} av lb (some q) rb qb).toArray (by rw[hg0_2];rfl) ?_;exact ZM ⟨rfl,rfl⟩
   ·refine ZY 8 (ZY 2 ?_);refine S.Yw (ps x.id) (bjC {x with again:=a&&!x.done} av lb (some q) rb qb).toArray (by rw[hg0_2];rfl) ?_;exact ZM ⟨rfl,rfl⟩
  ·rintro ρ' Γ' ⟨rfl,rfl⟩;refine ZY 8 (ZY 8 (ZY 8 (ZY 2 (Zv (Ky Tryz.underlying81 rfl rfl) (Zy (ZF ef (ZY 8 (ZY 4 ?_))))))));refine S.Yw (ps x.id) (bjC x1 av lb (some q) rb none).toArray (by rw[Z4];rfl) (S.Qh (L6 x.id _) ?_);refine S.conv (Xz (some q) x.Qi) (show Ent _ (Xz (some q) x1.Qi::_) by rw[Z4,hd];exact Ent.refl _) ?_;refine S.sub (jX (ps x.id) x1 av lb (some q) rb none (bR b st ps ub jb mb ov iv dv mv sb l i Γ)) (e:=by subst Z4;infer_instance) ?_;refine S.Qn b st ps ub jb mb ov iv dv mv sb l i x1 av lb (some q) rb none hi hid (Q5 x1 hid) (hF.set Dy) ⟨by rw[Z4];exact hJ.an,by rw[Z4];exact hJ.l,by rw[Z4];rfl,by rw[Z4];exact hJ.r,by rw[Z4];rfl⟩ ?_;refine Zp (Zc1 Ze ((hid ▸ Qgo b (st.set x1) ps x1 (H5 st (by rw[hid];exact hx)):Spec Tryz.prog 53 [pt b,pt (ps x.id)] [BP b (st.set x1) ps] fun Γ _ Θ=>Θ=BP b (Z6 (st.set x1) x1) ps::Γ)) ?_);rintro v Θ rfl;refine Zy ?_;exact Zfn ef Zq (by rw[hgo])
 | none=>
  refine Zbd Tryz.func52 rfl Tryz.ntmps52 fun w0 Γ=>Zsh ?_;refine S.Wv b st ps x hx fun ub jb mb ov iv dv mv sb l i av lb db rb qb hF hi Q5 Ld hJ=>?_;have hdb:db=none:=by have:=hJ.d;rw[hd]at this;cases db with|none=>rfl|some q=>cases this
  subst hdb;have han:=hJ.an;refine Zy ?_
  refine Zc (fun ρ' Γ'=>ρ'=[(0,pt b),(1,pt (ps x.id)),(2,.bool a)]∧Γ'=blk (ps x.id) 90 (bjC {x with again:=a&&!x.done} av lb none rb qb).toArray::own av 3 1 (nds x.at_)::Xz lb x.Y4::Dd rb x.ran::bR b st ps ub jb mb ov iv dv mv sb l i Γ) ?_ ?_
  ·refine ZY 4 ?_
   refine Zbb 10 ef (fun hg0_2=>?_) (fun hg0_2=>?_)
   ·refine ZY 8 (ZY 2 ?_);refine S.Yw (ps x.id) (bjC {x with again:=a&&!x.done} av lb none rb qb).toArray (by rw[hg0_2];rfl) ?_;exact ZM ⟨rfl,rfl⟩
   ·refine ZY 8 (ZY 2 ?_);refine S.Yw (ps x.id) (bjC {x with again:=a&&!x.done} av lb none rb qb).toArray (by rw[hg0_2];rfl) ?_;exact ZM ⟨rfl,rfl⟩
  ·rintro ρ' Γ' ⟨rfl,rfl⟩;refine ZY 8 (ZY 8 (ZY 8 (ZY 2 (Zv (Ky Tryz.underlying81 rfl rfl) (Zy (ZT ef (ZY 3 (Zp (S.makeMap .i64 rfl ?_)))))))));intro b36;refine S.conv (Qk b36 .i64 []) (show Ent _ (Qk b36 .i64 (Xy [])::_) from Ent.refl _) (ZY 8 (ZY 3 (S.Yw (ps x.id) (bjC {x with again:=a&&!x.done,work:=x.Qb} av lb (some b36) rb none).toArray rfl (ZY 3 ?_))));refine Zl (fun k ρ' Γ'=>∃(e:Nat) (ds:List Nat) (os:List Od) (ov2:SV),k=x.at_.length-e∧e≤x.at_.length∧ds=(x.at_.take e).filter (fun n=>decide (n∈st.up))∧os=st.Qa++ds.map (Xp x.id)∧ov2.n=os.length∧ρ'=[(0,pt b),(1,pt (ps x.id)),(42,av.v),(43,.int .i64 (av.n:Int)),(44,.int .i64 (e:Int))] ∧   Γ'=blk (ps x.id) 90 (bjC {x with again:=a&&!x.done,work:=x.Qb} av lb (some b36) rb none).toArray::Qk b36 .i64 (Xy ds)::own av 3 1 (nds x.at_)::Xz lb x.Y4::Dd rb x.ran::blk b 84 (bC st ub jb mb ov2 iv dv mv sb).toArray::Qk ub .i64 (Xy st.up)::Qk jb .u32 l::jT ps st.js i::jD ps st.js i::MI mb st.m::own ov2 97 14 (os.flatMap odC)::imgs iv st.Qe::own dv 31 1 (Q9 st.done)::own mv 31 1 (Q9 st.members)::Xz sb st.stops::Γ) (m:=_) (⟨0,[],st.Qa,ov,rfl,by omega,rfl,by simp,hF.on,rfl,rfl⟩) ?_;rintro k ρ' Γ' ⟨e,ds,os,ov2,hk,he,hds,hos,Wf,rfl,rfl⟩
   have hdl:ds.length≤x.at_.length:=by
    rw[hds];exact Nat.le_trans (List.length_filter_le _ _) (by rw[List.length_take];omega)
   have hol:os.length≤900016:=by rw[hos,List.length_append,List.length_map];omega
   refine ZY 5 ?_
   refine Zj ef (fun h2=>?_) (fun h2=>?_)
   ·refine S.Qp av (by omega) fun ab ao haa _ _ _=>?_;obtain⟨y,hy⟩:=Yv (show e<x.at_.length by omega);have Hd:x.at_.take (e+1)=x.at_.take e++[y]:=by rw[List.take_add_one,hy];rfl
    refine ZY 5 (Zv (Zx (e) ef (haa) ef (by omega)) ?_);refine Zv (Zo (av) (e) ef (haa) (by rw[List.getElem?_map,hy];rfl)) ?_;refine ZY 8 (Zy (Zp (Zcp Ze (Qjn ub st.up y) (Zy ?_))))
    refine Zj ef (fun h3=>?_) (fun h3=>?_)
    ·have hny:y∉ds:=fun hm=>by
      rw[hds]at hm;obtain⟨j,hj,e2⟩:=List.mem_take_iff_getElem.1 (List.mem_filter.1 hm).1;obtain⟨he2,e3⟩:=List.getElem?_eq_some_iff.1 hy;have:=List.pairwise_iff_getElem.1 Y5.Jy j e (by omega) he2 (by omega);omega
     have Qxg:ds++[y]=(x.at_.take (e+1)).filter (fun n=>decide (n∈st.up)):=by rw[Hd,List.filter_append,←hds];simp[h3]
     have Ei:os++[(y,{kind:=10,Qm:=x.id})]=st.Qa++(ds++[y]).map (Xp x.id):=by rw[hos,List.map_append,List.append_assoc];rfl
     refine ZY 7 (Zp (Zc1 Ze (Qj8 b36 ds y) ?_));rintro v Θ rfl;rw[show Yj ds y=ds++[y] from if_neg hny];refine ZY 8 (Zy ?_);refine Zv (Q3 (pvs:=[(_,_),(_,_)]) [_,_,_,_,_,_,_,_,_,_,_,_,_] Tryz.z72.h Tryz.p72.h ⟨⟨rfl,rfl⟩,⟨rfl,rfl⟩,trivial⟩ rfl) (Zp (Zc1 Ze (Fg b st ub jb mb ov2 iv dv mv sb y {kind:=10,Qm:=x.id} os Wf (by omega)) ?_));rintro v Θ ⟨ov3,D5,rfl⟩;refine ZY 2 (Zv (Za ef ef) (ZY 2 ?_));first|exact ZX (k-1) ⟨e+1,ds++[y],os++[(y,{kind:=10,Qm:=x.id})],ov3,by omega,by omega,Qxg,Ei,D5,rfl,rfl⟩ (by omega)|exact ZX (k-1) ⟨e+1,ds,os,ov2,by omega,by omega,Qxg,hos,Wf,rfl,rfl⟩ (by omega)
    ·have Qxg:ds=(x.at_.take (e+1)).filter (fun n=>decide (n∈st.up)):=by rw[Hd,List.filter_append,←hds];simp[h3]
     refine ZY 2 (Zv (Za ef ef) (ZY 2 ?_));first|exact ZX (k-1) ⟨e+1,ds++[y],os++[(y,{kind:=10,Qm:=x.id})],ov3,by omega,by omega,Qxg,Ei,D5,rfl,rfl⟩ (by omega)|exact ZX (k-1) ⟨e+1,ds,os,ov2,by omega,by omega,Qxg,hos,Wf,rfl,rfl⟩ (by omega)
   ·have hen:e=x.at_.length:=by omega
    rw[hen,List.take_length]at hds;obtain⟨x1,Z4⟩:∃x1:Bj,x1=Vf x a ds:=⟨_,rfl⟩;have D7:ds.Nodup:=by rw[hds];exact(Y5.Jy.imp fun h=>Nat.ne_of_lt h).filter _
    have Dy:JOk st.nodes x1:=by rw[Z4];exact Y5.Vf a D7
    have hid:x1.id=x.id:=by rw[Z4]
    have hgo:Y9 st x a=Z6 (Br.set {st with Qa:=os} x1) x1:=by
     rw[Ej _ rfl,Xm hd,Z4,hos,hds];rfl
    refine ZY 8 (ZY 4 ?_);refine S.Yw (ps x.id) (bjC x1 av lb (some b36) rb none).toArray (by rw[Z4];rfl) (S.Qh (L6 x.id _) ?_);refine S.conv (Qk b36 .i64 (Xy ds)) (Ent.Qcv (show x1.Qi=some ds by rw[Z4]) _) ?_;refine S.sub (jX (ps x.id) x1 av lb (some b36) rb none (bR b {st with Qa:=os} ps ub jb mb ov2 iv dv mv sb l i Γ)) (e:=by subst Z4;infer_instance) ?_;refine S.Qn b {st with Qa:=os} ps ub jb mb ov2 iv dv mv sb l i x1 av lb (some b36) rb none hi hid (Q5 x1 hid) (BF.set (st:={st with Qa:=os}) ⟨hok.oset os,hF.perm,Wf,hF.im,hF.dn,hF.mn,hF.sn⟩ Dy) ⟨by rw[Z4];exact hJ.an,by rw[Z4];exact hJ.l,by rw[Z4];rfl,by rw[Z4];exact hJ.r,by rw[Z4];rfl⟩ ?_;refine Zp (Zc1 Ze ((hid ▸ Qgo b (Br.set {st with Qa:=os} x1) ps x1 (H5 {st with Qa:=os} (by rw[hid];exact hx)):Spec Tryz.prog 53 [pt b,pt (ps x.id)] [BP b (Br.set {st with Qa:=os} x1) ps] fun Γ _ Θ=>Θ=BP b (Z6 (Br.set {st with Qa:=os} x1) x1) ps::Γ)) ?_);rintro v Θ rfl;refine Zy ?_;exact Zfn ef Zq (by rw[hgo])
theorem JOk.dn{N:Nat}{x:Bj}(h:JOk N x):JOk N {x with done:=true}:=⟨h.B6,h.Al,h.tier,h.k1,h.kn,h.w,h.cr,h.wk,h.Jy,h.at_,h.drop,h.lod,h.ran,h.ld,h.svl⟩
theorem Qgp(st:Br)(x:Bj):(Q0 st x).Qa.length≤st.Qa.length+x.at_.length∧(Q0 st x).Qe=st.Qe∧(Q0 st x).done.length≤st.done.length+1:=by
 unfold Q0
 split
 ·exact⟨by show st.Qa.length≤_;omega,rfl,by show st.done.length≤_;omega⟩
 ·obtain⟨h1,h2,h3,_⟩:=Gs {st with done:=st.done++[x.id]} {x with done:=true} false;exact⟨h1,h2,by rw[h3];simp⟩
theorem Me(st:Br){x y:Bj}(h:x.id=y.id):Q0 (st.set x) y=Q0 st y:=by
 unfold Q0
 split
 ·exact set_set st h
 ·exact drop_set {st with done:=st.done++[y.id]} (x:=x) (y:={y with done:=true}) h false
theorem Qb5(b:Nat)(st:Br)(ps:Nat→Nat)(x:Bj)(hx:Qg st.js x.id=some x)(hl:st.Qa.length≤900000)(hd:st.done.length≤900000):Spec Tryz.prog 39 [pt b,pt (ps x.id)] [BP b st ps] fun Γ _ Θ=>Θ=BP b (Q0 st x) ps::Γ:=by
 refine Spec.Us fun hok=>?_;have Y5:=hok.at_ hx;refine Zbd Tryz.func39 rfl Tryz.ntmps39 fun w0 Γ=>Zsh ?_;refine S.Wv b st ps x hx fun ub jb mb ov iv dv mv sb l i av lb db rb qb hF hi Q5 Ld hJ=>?_;have D7:=hF.dn;have hdl:(st.done++[x.id]).length=st.done.length+1:=by simp
 obtain⟨x1,Z4⟩:∃x1:Bj,x1={x with done:=true}:=⟨_,rfl⟩;have Dy:JOk st.nodes x1:=by rw[Z4];exact Y5.dn
 have hid:x1.id=x.id:=by rw[Z4]
 have hJ1:JF x1 av lb db rb qb:=by rw[Z4];exact⟨hJ.an,hJ.l,hJ.d,hJ.r,hJ.s⟩
 have hids:Q9 st.done++[.int .u32 (x.id:Int)]=Q9 (st.done++[x.id]):=by simp
 have hx2:Qg (Br.set {st with done:=st.done++[x.id]} x1).js x1.id=some x1:=H5 {st with done:=st.done++[x.id]} (by rw[hid];exact hx)
 have Lb:Spec Tryz.prog 52 [pt b,pt (ps x.id),.bool false] [BP b (Br.set {st with done:=st.done++[x.id]} x1) ps] fun Γ _ Θ=>Θ=BP b (Y9 (Br.set {st with done:=st.done++[x.id]} x1) x1 false) ps::Γ:=by
  rw[←hid];exact Qcb b _ ps x1 false hx2 hl
 refine ZY 2 ?_;refine Zd ([blk (ps x.id) 90 (bjC x av lb db rb qb).toArray]) [] (Zra 0 12) (ZY 8 (ZY 4 ?_))
 refine Zb 15 ef (fun hg0_11=>?_) (fun hg0_11=>?_)
 ·have hg:Q0 st x=st.set x:=by rw[Q0,if_pos (.inl (by omega))]
  refine Zr (Zra 12 5) (ZY 5 ?_);refine ZD (ZY 2 (S.Qn b st ps ub jb mb ov iv dv mv sb l i x av lb db rb qb hi rfl (Q5 x rfl) (hF.set Y5) hJ ?_));exact Zf ef Zq (by rw[hg])
 ·refine Zr (Zra 12 5) (ZY 5 ?_);refine ZD ?_
  refine Zi ef (fun h1=>?_) (fun h1=>?_)
  ·have hg:Q0 st x=st.set x:=by rw[Q0,if_pos (.inr h1)]
   refine Zy (S.Qn b st ps ub jb mb ov iv dv mv sb l i x av lb db rb qb hi rfl (Q5 x rfl) (hF.set Y5) hJ ?_);exact Zf ef Zq (by rw[hg])
  ·have hg:Q0 st x=Y9 {st with done:=st.done++[x.id]} x1 false:=by rw[Q0,if_neg (by rw[h1];intro h;rcases h with h|h;omega;cases h),Z4]
   refine ZY 8 (Zy ?_);refine Zd ([blk (ps x.id) 90 (bjC {x with done:=true} av lb db rb qb).toArray,blk b 84 (bC st ub jb mb ov iv dv mv sb).toArray]) [14] (Zra 0 10) (ZY 8 (ZY 2 ?_));refine Z1 (i:=10) ef ef ?_;refine(S.buildSlice (pvs:=[(_,_)]) [_] Tryz.underlying53 Tryz.Jr.h rfl rfl ⟨⟨rfl,rfl⟩,trivial⟩ rfl rfl ?_);intro b34;refine Zk [] ?_;refine Z1 (i:=11) ef ef ?_;refine(S.Qu (s:=dv) (1) ([.int .u32 (x.id:Int)]) Tryz.underlying53 Tryz.Jr.h rfl rfl rfl (Qy (b:=b34) rfl (by unfold maxLen;omega)) (by first|rfl|exact Ql _) (⟨by omega,by omega⟩) rfl ?_);intro dv2 Qgl;rw[hids];refine Zk [12,13] (ZY 2 ?_);refine Z1 (i:=14) ef ef ?_;refine(S.store (cs':=[_,_,_,_,_,_,_,_,_,_,_,_,_,_,_,_,_,_]) Eo.h rfl rfl rfl rfl rfl ?_);refine ZL ([]) [] ?_;refine ZD (ZY 3 ?_);refine S.sub (jX (ps x.id) x1 av lb db rb qb (bR b {st with done:=st.done++[x.id]} ps ub jb mb ov iv dv2 mv sb l i Γ)) (e:=by subst Z4;infer_instance) ?_;refine S.Qn b {st with done:=st.done++[x.id]} ps ub jb mb ov iv dv2 mv sb l i x1 av lb db rb qb hi hid (Q5 x1 hid) (BF.set (st:={st with done:=st.done++[x.id]}) ⟨hok.dset _,hF.perm,hF.on,hF.im,by show dv2.n=(st.done++[x.id]).length;omega,hF.mn,hF.sn⟩ Dy) hJ1 (Zp (Zc1 Ze (Lb) ?_));rintro v Θ rfl;rw[drop_set {st with done:=st.done++[x.id]} (x:=x1) (y:=x1) rfl];refine Zy ?_;exact Zfn ef Zq (by rw[hg])
theorem Cq(b:Nat)(st:Br)(ps:Nat→Nat)(n:Int)(up:Bool):Spec Tryz.prog 37 [pt b,.int .i64 n,.bool up] [BP b st ps] fun Γ v Θ=>v=.int .i64 (W5 st n up)∧Θ=BP b st ps::Γ:=by
 refine Zbd Tryz.func37 rfl Tryz.ntmps37 fun w0 Γ=>Zsh ?_;refine S.Xx b st ps fun ub jb mb ov iv dv mv sb l hF=>(ZY 8 (ZY 4 (ZF ef (Zy ?_))))
 refine Zc (fun ρ' Γ'=>ρ'=[(0,pt b),(1,.int .i64 n),(2,.bool up),(10,.bool (decide (n<0∨(st.nodes:Int)≤n)))]∧Γ'=bX b st ps ub jb mb ov iv dv mv sb l Γ) ?_ ?_
 ·refine ZY 4 ?_
  refine Zb 13 ef (fun hg3_2=>?_) (fun hg3_2=>?_)
  ·refine ZY 8 (ZY 2 ?_);first|(rw[show decide (n<0∨(st.nodes:Int)≤n)=true from decide_eq_true (.inl hg3_2)];exact S.meet ⟨rfl,rfl⟩ ⟨rfl,rfl,rfl,rfl,trivial⟩ Sub.Qh)|(rw[show decide (n<0∨(st.nodes:Int)≤n)=decide ((st.nodes:Int)≤n) from decide_eq_decide.2 (by omega)];exact S.meet ⟨rfl,rfl⟩ ⟨rfl,rfl,rfl,rfl,trivial⟩ Sub.Qh)
  ·refine ZY 8 (ZY 2 ?_);first|(rw[show decide (n<0∨(st.nodes:Int)≤n)=true from decide_eq_true (.inl hg3_2)];exact S.meet ⟨rfl,rfl⟩ ⟨rfl,rfl,rfl,rfl,trivial⟩ Sub.Qh)|(rw[show decide (n<0∨(st.nodes:Int)≤n)=decide ((st.nodes:Int)≤n) from decide_eq_decide.2 (by omega)];exact S.meet ⟨rfl,rfl⟩ ⟨rfl,rfl,rfl,rfl,trivial⟩ Sub.Qh)
 ·rintro ρ' Γ' ⟨rfl,rfl⟩
  refine Zj ef (fun h2=>?_) (fun h2=>?_)
  ·have hn:W5 st n up=1:=by rw[W5,if_pos h2]
   refine ZY 5 (S.Q6 b st ps ub jb mb ov iv dv mv sb l hF ?_);exact Zf ef Zq (⟨by rw[hn];rfl,rfl⟩)
  ·refine ZY 7 (Zp (Zcp Ze (Qg4 mb st.m n) (ZY 4 ?_)))
   refine Zi ef (fun h3=>?_) (fun h3=>?_)
   ·have hn:W5 st n up=14:=by rw[W5,if_neg h2,if_pos (by simpa using h3)]
    refine ZY 5 (S.Q6 b st ps ub jb mb ov iv dv mv sb l hF ?_);exact Zf ef Zq (⟨by rw[hn];rfl,rfl⟩)
   ·have hn:W5 st n up=0:=by rw[W5,if_neg h2,if_neg (by simpa using h3)]
    refine ZY 6 (S.Q6 b st ps ub jb mb ov iv dv mv sb l hF ?_);exact Zf ef Zq (⟨by rw[hn];rfl,rfl⟩)
theorem S7{st:Br}{n:Int}{up:Bool}(h:W5 st n up=0):0≤n∧n<st.nodes:=by
 unfold W5 at h
 split at h
 ·cases h
 ·omega
theorem Lz(m:Mx)(z:Int)(on:Bool):(upR m z on).2.R=m.R∧(upR m z on).2.N=m.N:=by
 unfold upR;split <;> exact⟨rfl,rfl⟩
theorem Qe4{m:Mx}(hm:Xk m)(z:Int)(on:Bool):Xk (upR m z on).2:=by
 unfold upR
 split
 ·rename_i h;have:=Ws.1 h;exact hm.J1 (by omega) on
 ·exact hm
theorem Q7.uset{st:Br}(h:Q7 st)(u:List Nat):Q7 {st with up:=u}:=⟨h.R,h.N,h.Hu,h.Yz,h.Qm,h.Ev,h.q1,h.q2,h.g1,h.g2,h.now,h.fin,h.mem,h.Eu⟩
theorem Qzx{st:Br}(h:Q7 st)(n:Int):Q7 (Ke st n).2:=by
 unfold Ke
 split
 ·exact h
 ·exact(h.uset (Yj st.up n.toNat)).mset (Qe4 h.Hu n true) (Lz _ _ _).1 (Lz _ _ _).2
theorem Qsr(b:Nat)(st:Br)(ps:Nat→Nat)(n:Int):Spec Tryz.prog 12 [pt b,.int .i64 n] [BP b st ps] fun Γ v Θ=>v=.int .i64 (Ke st n).1∧Θ=BP b (Ke st n).2 ps::Γ:=by
 refine Spec.Us fun hok=>?_;refine Zbd Tryz.func12 rfl Tryz.ntmps12 fun w0 Γ=>Zsh (ZY 8 (Zy (Zp (Zcp Ze (Cq b st ps n false) (ZY 7 ?_)))))
 refine Zj ef (fun h1=>?_) (fun h1=>?_)
 ·have hu:Ke st n=(W5 st n false,st):=by rw[Ke,if_pos h1]
  refine ZY 6 ?_;exact Zf ef Zq (⟨by rw[hu];rfl,by rw[hu]⟩)
 ·have hr:=S7 (Classical.byContradiction h1);have hu:Ke st n=((upR st.m n true).1,{st with up:=Yj st.up n.toNat,m:=(upR st.m n true).2}):=by rw[Ke,if_neg h1]
  obtain⟨k,rfl⟩:∃k:Nat,n=k:=⟨n.toNat,by omega⟩;refine S.Xx b st ps fun ub jb mb ov iv dv mv sb l hF=>(ZY 8 (Zp (Zc1 Ze (Qj8 ub st.up k) ?_)));rintro v Θ rfl;refine ZY 8 (Zp (Zcp Ze (Go.Proofs.YtdackcibfkkniaaGreatDoor.Qsr mb st.m k true) (ZY 3 (S.sub (bX b {st with up:=Yj st.up k,m:=(upR st.m k true).2} ps ub jb mb ov iv dv mv sb l Γ) ?_))));refine S.Q6 b {st with up:=Yj st.up k,m:=(upR st.m k true).2} ps ub jb mb ov iv dv mv sb l ⟨(hok.uset (Yj st.up k)).mset (Qe4 hok.Hu k true) (Lz _ _ _).1 (Lz _ _ _).2,hF.perm,hF.on,hF.im,hF.dn,hF.mn,hF.sn⟩ ?_;exact Zf ef Zq (⟨by rw[hu];rfl,by rw[hu,Int.toNat_natCast]⟩)
end BN
theorem Q0x{α:Type}{P:Program}{g:Operand}{p:Tmp}{assign body:Code}{Q:Exit→Act→World→Prop}{a:Act}{w:World}{w0:WM false}{gf:FuncId}{fs cs:List Value}{enc:α→Value}{G:List α→α→Prop}{E:List α→Prop}{pre:List Assn}
  (hg:a.eval g=.func (.func gf) fs.toArray cs.toArray) (he:V5 P gf=true) (Ql3:Qne P gf fs cs enc G E pre) (I:List α→List Assn) {Γ:List Assn} (hs:Sat w (pre++(I []++Γ))) (hx:Ext w0 w)
  (A:α→Nat→Act→Prop) (extra:α→Nat→Assn) (hassign:∀(l:Nat) (x:α) (W:World) (Δ:List Assn) (K:Act→World→Prop),Sat W Δ→Ext w0 W→(∀b a' W',A x b a'→Sat W' (extra x b::Δ)→Ext w0 W'→K a' W')→assign.wpIn (Fence.wide.inRound l) 0 P (Exit.then K (fun _ _ _=>False)) {tmps:=a.tmps.setIfInBounds p (enc x),defers:=[]} W)
  (Qby:∀(l:Nat) (done:List α) (x:α) (b:Nat) (a':Act) (Θ:List Assn) (W:World),G done x→A x b a'→Sat W (extra x b::(I done++Θ))→Ext w0 W →
   body.wpIn (Fence.wide.inRound l) 0 P (fun e _ W'=>e=.normal∧Sat W' (I (done++[x])++Θ)∧Ext w0 W') a' W)
  (Cz:∀(D:Nat) (xs:List α) (W:World),E xs→Sat W (Gu D::(pre++(I xs++Γ)))→Ext w0 W→Q .normal {a with defers:={target:=.collected D,args:=#[]}::a.defers} W) :
  (Code.rangeFunc g #[p] assign body).wpIn Fence.wide 0 P Q a w:=by
 refine wpIn_rangeFunc fun fn _=>?_;obtain⟨rec,Mb⟩:∃rec:LoopState→Loop,rec=fun st=>{state:=st,pending:=none,fn,tmps:=a.tmps,params:=#[p],assign,body,defers:=w.heap.size}:=⟨_,rfl⟩;obtain⟨W1,hW1⟩:∃W1,(w.alloc (.deferred (some []))).alloc (.loop (rec .ready))=W1:=⟨_,rfl⟩
 have D9:Sat W1 (Ui (w.heap.size+1) (rec .ready)::Gu w.heap.size::(pre++(I []++Γ))):=by
  have h1:=hs.newObj (.deferred (some [])) Gu fun b=>HL.Xt _ _;have h2:=h1.newObj (.loop (rec .ready)) (fun b=>Ui b (rec .ready)) fun b=>HL.Xt _ _;rw[World.size_alloc,hW1]at h2;exact h2
 have Z4:Ext w0 W1:=by rw[←hW1];exact(hx.alloc _).alloc _
 refine⟨w.heap.size+1,[{target:=.collected w.heap.size,args:=#[]}],W1,{target:=.fn (.func gf) cs.toArray,args:=fs.toArray++#[.func (.yield (w.heap.size+1)) #[] #[]]},W1,gf,
  fs.toArray++#[.func (.yield (w.heap.size+1)) #[] #[]]++cs.toArray,W1,?_,?_,fun _ _=>trivial,?_,fun h=>by simp[Fence.wide]at h,?_⟩
 ·rw[←hW1,Mb];exact run_enterLoop_outer _ _ _ _ _
 ·simp only[resolve,hg];simp[go_sem]
 ·have hcf:∀args w,(callFunc gf args).run P w=.ok (.enter gf args) w:=fun args w=>by
   unfold V5 at he
   split at he
   ·rename_i f hf;simp only[Bool.and_eq_true,bne_iff_ne,ne_eq]at he;obtain⟨h1,h2⟩:=he;have h2':¬f.body=none:=by cases hb:f.body <;> simp[hb]at h2 ⊢
    simp[callFunc,hf,h1,h2']
   ·cases he
  simp[invoke,go_sem,hcf]
 ·have hent:∀(st:LoopState) (done:List α),Ent (Ui (w.heap.size+1) (rec st)::Gu w.heap.size::(pre++(I done++Γ))) (pre++((Ui (w.heap.size+1) (rec st)::I done)++(Gu w.heap.size::Γ))):=fun st done=>
   ((Ent.cons _ (Ent.cons _ (Ent.pack pre _))).trans ((Ent.cons _ (Ent.swap _ _ _)).trans (Ent.swap _ _ _))).trans ((Ent.cons (stars pre) ((Ent.cons _ ((Ent.cons _ (Ent.pack (I done) Γ)).trans ((Ent.swap _ _ _).trans (Ent.unpack (I done) _)))))).trans (Ent.unpack pre _))
  have Qxk:∀(st:LoopState) (done:List α),Ent (pre++((Ui (w.heap.size+1) (rec st)::I done)++(Gu w.heap.size::Γ))) (Ui (w.heap.size+1) (rec st)::Gu w.heap.size::(pre++(I done++Γ))):=fun st done=>
   (Ent.pack pre _).trans ((Ent.cons _ (Ent.cons _ ((Ent.pack (I done) _).trans ((Ent.swap _ _ _).trans (Ent.cons _ (Ent.unpack (I done) Γ)))))).trans ((Ent.swap _ _ _).trans (Ent.cons _ ((Ent.swap _ _ _).trans (Ent.cons _ (Ent.unpack pre _))))))
  have Qxj:=Ql3 (w.heap.size+1) w0 (fun done=>Ui (w.heap.size+1) (rec .ready)::I done) ?_ (Gu w.heap.size::Γ) W1 (D9.Qh (hent _ _)) Z4
  ·obtain⟨hc1,hc2⟩:=Qxj;refine⟨trivial,fun fr hr=>?_⟩;obtain⟨e,w',f',⟨⟨v,rfl⟩,xs,hE,hs',hx'⟩,st,rest⟩:=hc2 fr hr;refine⟨_,w',f',?_,st,rest⟩;have Jz:=hs'.Qh (Qxk _ _);have Gq:=Jz.A9;have hend:=run_endLoop (P:=P) Gq (by rw[Mb];simp);have hp:(rec .ready).pending=none:=by rw[Mb]
   obtain⟨W2,hW2⟩:∃W2,W2=w'.putObj (w.heap.size+1) (.loop {rec .ready with state:=.exhausted}):=⟨_,rfl⟩;rw[←hW2,hp]at hend;refine⟨none,W2,hend,?_⟩;rw[hW2]
   refine Cz w.heap.size xs _ hE ?_ ?_
   ·have:=Jz.Bn ({rec .ready with state:=.exhausted});exact(this.Qh (Ent.drop _ _))
   ·exact hx'.setObj _ _
  ·intro done x Θ W D3 Lc hext;have hl:=(show Sat W (Ui (w.heap.size+1) (rec .ready)::(I done++Θ)) from Lc).A9
   have hy:(Instr.yield (w.heap.size+1) #[enc x]).run P W=.ok (.round (w.heap.size+1) fn (a.tmps.setIfInBounds p (enc x)) assign body) W:=by
    have:=run_yield (P:=P) (args:=#[enc x]) hl (by rw[Mb];rfl);rw[Mb]at this
    simpa using this
   refine⟨fn,_,assign,body,hy,roundIn_of_wpIn (F:=Fence.wide) trivial ?_⟩;refine hassign (w.heap.size+1) x W _ _ Lc hext fun b a' W' hA hsat' hext'=>?_;have Q4z:Sat W' (Ui (w.heap.size+1) (rec .ready)::(extra x b::(I done++Θ))):=hsat'.Qh (Ent.swap _ _ _);have hl':=Q4z.A9;have hsB:=Q4z.Bn {rec .ready with state:=.busy};refine⟨_,run_beginRound hl' (by rw[Mb]),?_⟩;have hsB':Sat (W'.putObj (w.heap.size+1) (.loop {rec .ready with state:=.busy})) (extra x b::(I done++(Ui (w.heap.size+1) {rec .ready with state:=.busy}::Θ))):=hsB.Qh ((Ent.swap _ _ _).trans (Ent.cons _ (((Ent.cons _ (Ent.pack (I done) Θ)).trans (Ent.swap _ _ _)).trans (Ent.unpack (I done) _))));refine wpIn_mono (Qby (w.heap.size+1) done x b a' _ _ D3 hA hsB' (hext'.setObj _ _)) ?_;rintro e a3 W3 ⟨rfl,Uq,hx3⟩;have Pw:Sat W3 (Ui (w.heap.size+1) {rec .ready with state:=.busy}::(I (done++[x])++Θ)):=Uq.Qh ((Ent.pack (I (done++[x])) _).trans ((Ent.swap _ _ _).trans (Ent.cons _ (Ent.unpack (I (done++[x])) Θ))));have Si:=Pw.A9;have hend:=run_endRound (P:=P) none Si;refine⟨_,_,hend,rfl,?_,hx3.setObj _ _⟩;have:=Pw.Bn ({rec .ready with state:=.ready});rw[Mb]at this ⊢;exact this
section
variable {P:Program}{n:Nat}{ρ:Env}{Γ:List Assn}{Q:Exit→Act→World→Prop}
theorem S.Q0y{α:Type}{g:Operand}{p q:Nat}{id:Nat}{body:Code}{w0:WM false}{gf:FuncId}{fs cs:List Value}{enc:α→Value}{G:List α→α→Prop}{E:List α→Prop}{pre Γ':List Assn}{t1 t2:TypeId}{s1 s2:String}{af1 af2:Array Edge}{T:TypeId}(cells:α→List Value)
  (hg:ev ρ g=some (.func (.func gf) fs.toArray cs.toArray)) (he:V5 P gf=true) (Ql3:Qne P gf fs cs enc G E pre) (I:List α→List Assn) (hI:Ent Γ (pre++(I []++Γ'))) (hp:Nat.blt p n=true)
  (Q7u:∀(w0:WM false) (l:Nat) (x:α) (Δ:List Assn) (K:Act→World→Prop),(∀b,S n w0 ((q,.pointer (some ⟨b,0,none⟩))::(p,enc x)::ρ) (blk b T (cells x).toArray::Δ) K)→S n w0 ((p,enc x)::ρ) Δ ((Code.region id #[⟨some q,.alloc T,t1,s1,af1,none⟩,⟨none,.store T (.tmp q) (.tmp p),t2,s2,af2,none⟩] false).wpIn {Fence.wide with round:=some l} 0 P (Exit.then K (fun _ _ _=>False))))
  (Qby:∀(l b:Nat) (done:List α) (x:α) (Θ:List Assn),G done x →
   S n w0 ((q,.pointer (some ⟨b,0,none⟩))::(p,enc x)::ρ) (blk b T (cells x).toArray::(I done++Θ)) (body.wpIn {Fence.wide with round:=some l} 0 P fun e _ W'=>e=.normal∧Sat W' (I (done++[x])++Θ)∧Ext w0 W'))
  (Cz:∀D xs,E xs→S n w0 ρ (Gu D::(pre++(I xs++Γ'))) (F0 [{target:=.collected D,args:=#[]}] (Q .normal))) :
  S n w0 ρ Γ ((Code.rangeFunc g #[p] (.region id #[⟨some q,.alloc T,t1,s1,af1,none⟩,⟨none,.store T (.tmp q) (.tmp p),t2,s2,af2,none⟩] false) body).wp P Q):=by
 intro a w ha hs hx
 refine(wpIn_wide (n:=0)).1 (Q0x (ha.ev hg) he Ql3 I (hs.Qh hI) hx (fun x b a'=>Uc n ((q,.pointer (some ⟨b,0,none⟩))::(p,enc x)::ρ) a') (fun x b=>blk b T (cells x).toArray) ?_ ?_ ?_)
 ·intro l x W Δ K hsW hxW hK
  have ha2:Uc n ((p,enc x)::ρ) {tmps:=a.tmps.setIfInBounds p (enc x),defers:=[]}:=by
   have h1:=ha.put hp (enc x);exact⟨h1.size,rfl,h1.get⟩
  exact Q7u w0 l x Δ K (fun b a' W' ha' hs' hx'=>hK b a' W' ha' hs' hx') _ W ha2 hsW hxW
 ·intro l done x b a' Θ W D3 hA hsW hxW;exact Qby l b done x Θ D3 a' W hA hsW hxW
 ·intro D xs W hE hsW hxW;have:=Cz D xs hE a W ha hsW hxW;rw[ha.defers];exact this
def Qa4(b:Nat)(T E:TypeId)(sz m:Nat)(done:List Value):Assn:=fun h=>∃sv:SV,sv.n=m∧stars [blk b T #[sv.v],own sv E sz done] h
theorem Ent.Qa4{b:Nat}{T E:TypeId}{sz m:Nat}{done:List Value}(sv:SV)(hn:sv.n=m)(Γ:List Assn):Ent (blk b T #[sv.v]::own sv E sz done::Γ) (Qa4 b T E sz m done::Γ):=
 (Ent.pack [blk b T #[sv.v],own sv E sz done] Γ).trans (Ent.W9 Γ fun _ p=>⟨sv,hn,p⟩)
theorem S.Qa4{md:Bool}{w0:WM md}{φ:Act→World→Prop}{b:Nat}{T E:TypeId}{sz m:Nat}{done:List Value}{Δ:List Assn}[p:Pick (Qa4 b T E sz m done) Γ Δ](k:∀sv:SV,sv.n=m→S n w0 ρ (blk b T #[sv.v]::own sv E sz done::Δ) φ):S n w0 ρ Γ φ:=by
 intro a w ha hs hx;obtain⟨h0,l,h1,h2,d,l1,l2,⟨sv,hn,q⟩,s⟩:=hs.Qh p.Qh;exact k sv hn a w ha ⟨h0,l,(Ent.unpack [blk b T #[sv.v],own sv E sz done] Δ) _ ⟨h1,h2,d,l1,l2,q,s⟩⟩ hx
end
namespace BN
abbrev Qv7(c mb:Nat)(l:List (Int×Value)):List Assn:=[blk c 82 #[.map (some mb)],Qk mb .u32 l]
theorem Qv6(c mb:Nat)(l:List (Int×Value)):Qne Tryz.prog 104 [] [.pointer (some ⟨c,0,none⟩)] kv (fun done _=>done.length<l.length) (fun xs=>xs.Perm (l.map (·.1))) (Qv7 c mb l):=by
 intro y w0 J hY Γ w hs hx;refine callsIn_wide.2 (Mn (n:=14) (l:=[.func (.yield y) #[] #[],.pointer (some ⟨c,0,none⟩)]) (Γ:=stars (J [])::blk c 82 #[.map (some mb)]::Qk mb .u32 l::Γ) (w0:=w0) Tryz.func104 rfl Tryz.ntmps104 rfl ?_ (hs.Qh (((Ent.cons _ (Ent.cons _ (Ent.pack (J []) Γ))).trans (Ent.cons _ (Ent.swap _ _ _))).trans (Ent.swap _ _ _))) hx);show S _ w0 [(0,.func (.yield y) #[] #[]),(1,.pointer (some ⟨c,0,none⟩))] (stars (J [])::blk c 82 #[.map (some mb)]::Qk mb .u32 l::Γ) _;refine S.seq fun K1 hK1=>(S.region rfl (S.op (S.q (Kx Eo.h rfl rfl) rfl rfl (S.op (S.range Tryz.underlying82 rfl rfl ?_)))));intro r5;first|with_reducible refine S.Cs ?_|refine S.nil ?_
 refine hK1 _ _ (S.block ?_);refine S.loop (fun m ρ' Γ'=>∃(left:List (Int×Value)) (cur:Option (Int×Value)) (L:List Int),m=left.length∧(L++left.map (·.1)).Perm (l.map (·.1))∧ρ'=[(0,.func (.yield y) #[] #[]),(5,.pointer (some ⟨r5,0,none⟩))]∧Γ'=Kj r5 mb .u32 l left cur::stars (J L)::blk c 82 #[.map (some mb)]::Γ) (m:=_) (ρ0:=_) (Γ0:=_) (⟨l,none,[],rfl,List.Perm.refl _,rfl,rfl⟩) (by repeat (first|exact trivial|refine⟨rfl,?_⟩)) Sub.Qh ?_;rintro m ρ' Γ' ⟨left,cur,L,hm,hL,rfl,rfl⟩;refine S.seq fun K2 R0=>(S.region rfl ?_)
 refine S.op (S.Yh rfl rfl (fun hl6=>?_) (fun i6 z6 v6 hi6=>?_))
 ·have hl0:left=[]:=hl6;subst hl0;rw[List.map_nil,List.append_nil]at hL;refine S.op (S.q (J8 rfl rfl) rfl rfl ?_);first|with_reducible refine S.Cs ?_|refine S.nil ?_
  refine R0 _ _ ?_;refine S.seq fun K3 hK3=>(S.R2 rfl (S.exit ?_))
  with_reducible repeat (first|refine S.Vq ?_|refine S.Vp ?_|refine S.then_r ?_|refine S.Y2 ?_|refine S.inBlock_r ?_|refine S.inBlock_x rfl ?_|refine S.noGoto_r ?_|refine S.noGoto_n ?_|refine S.noGoto_x ?_)
  with_reducible refine S.Ps ?_
  with_reducible repeat (first|refine S.Vq ?_|refine S.Vp ?_|refine S.then_r ?_|refine S.Y2 ?_|refine S.inBlock_r ?_|refine S.inBlock_x rfl ?_|refine S.noGoto_r ?_|refine S.noGoto_n ?_|refine S.noGoto_x ?_)
  with_reducible repeat (first|refine S.Vq ?_|refine S.Vp ?_|refine S.then_r ?_|refine S.Y2 ?_|refine S.inBlock_r ?_|refine S.inBlock_x rfl ?_|refine S.noGoto_r ?_|refine S.noGoto_n ?_|refine S.noGoto_x ?_)
  refine S.Q8l rfl ?_;exact fun v w hs hx=>⟨⟨v,rfl⟩,_,hL,hs.Qh ((Ent.Kj _).trans ((Sub.Qh (Δ:=blk c 82 #[.map (some mb)]::Qk mb .u32 l::stars (J L)::Γ)).trans (Ent.cons _ (Ent.cons _ (Ent.unpack _ _))))),hx⟩
 ·have Tb:=Dm hi6;have hel:=Tb.length_eq;rw[List.length_cons]at hel
  have hL2:((L++[z6])++(left.eraseIdx i6).map (·.1)).Perm (l.map (·.1)):=by
   rw[List.append_assoc];exact(List.Perm.append_left L (Tb.map (·.1)).symm).trans hL
  have Wq:L.length<l.length:=by
   have:=hL.length_eq;rw[List.length_append,List.length_map,List.length_map]at this;omega
  refine S.op (S.q (J8 rfl rfl) rfl rfl ?_);first|with_reducible refine S.Cs ?_|refine S.nil ?_
  refine R0 _ _ ?_;refine S.seq fun K4 hK4=>(S.Qjz rfl (S.skip ?_))
  with_reducible repeat (first|refine S.Vq ?_|refine S.Vp ?_|refine S.then_r ?_|refine S.Y2 ?_|refine S.inBlock_r ?_|refine S.inBlock_x rfl ?_|refine S.noGoto_r ?_|refine S.noGoto_n ?_|refine S.noGoto_x ?_)
  refine hK4 _ _ (S.block ?_);refine S.seq fun K5 hK5=>(S.region rfl (S.op (S.q (Gl rfl) rfl rfl (S.op (S.q (J8 rfl rfl) rfl rfl (S.op (S.q (Jl rfl) rfl rfl ?_)))))));first|with_reducible refine S.Cs ?_|refine S.nil ?_
  refine hK5 _ _ ?_;refine S.seq fun K6 hK6=>(S.Qfm rfl (S.opI rfl ?_));refine  (S.q (Z8 rfl) rfl rfl (S.opI rfl ?_));refine  (S.q (Z8 rfl) rfl rfl ?_);refine S.Qky rfl rfl (fun w hs hx=>hY L z6 (Kj r5 mb .u32 l (left.eraseIdx i6) (some (z6,v6))::blk c 82 #[.map (some mb)]::Γ) w Wq (hs.Qh ((Ent.swap _ _ _).trans (Ent.unpack _ _))) hx) rfl (S.Qh (Ent.pack _ _) (S.opI rfl ?_));refine  (S.q (Qob rfl) rfl rfl (S.Qlr ?_));refine hK6 _ _ (S.R2 rfl (S.skip ?_))
  with_reducible repeat (first|refine S.Vq ?_|refine S.Vp ?_|refine S.then_r ?_|refine S.Y2 ?_|refine S.inBlock_r ?_|refine S.inBlock_x rfl ?_|refine S.noGoto_r ?_|refine S.noGoto_n ?_|refine S.noGoto_x ?_)
  with_reducible repeat (first|refine S.Vq ?_|refine S.Vp ?_|refine S.then_r ?_|refine S.Y2 ?_|refine S.inBlock_r ?_|refine S.inBlock_x rfl ?_|refine S.noGoto_r ?_|refine S.noGoto_n ?_|refine S.noGoto_x ?_)
  with_reducible repeat (first|refine S.Vq ?_|refine S.Vp ?_|refine S.then_r ?_|refine S.Y2 ?_|refine S.inBlock_r ?_|refine S.inBlock_x rfl ?_|refine S.noGoto_r ?_|refine S.noGoto_n ?_|refine S.noGoto_x ?_)
  exact ZX ((left.eraseIdx i6).length) (⟨left.eraseIdx i6,some (z6,v6),L++[z6],rfl,hL2,rfl,rfl⟩) (by omega)
theorem Qzc(mb:Nat):Spec Tryz.prog 65 [.map (some mb)] [] fun Γ v Θ=>∃c,v=.func (.func 104) #[] #[.pointer (some ⟨c,0,none⟩)]∧Θ=blk c 82 #[.map (some mb)]::Γ:=by
 refine Zbd Tryz.func65 rfl Tryz.ntmps65 fun w0 Γ=>Zsh (ZY 2 (Zp (S.box (cs:=[_]) rfl rfl rfl ?_)));intro b1;refine ZY 8 ?_;exact Zf ef Zq (⟨b1,rfl,rfl⟩)
theorem Qkn(c mb:Nat)(l:List (Int×Value))(hl:l.length≤65535):Spec Tryz.prog 136 [.slice none 0 0,.func (.func 104) #[] #[.pointer (some ⟨c,0,none⟩)]] (Qv7 c mb l) fun Γ v Θ=>∃(sv:SV) (xs:List Int),v=sv.v∧sv.n=xs.length∧xs.Perm (l.map (·.1))∧Θ=own sv 31 1 (xs.map kv)::blk c 82 #[.map (some mb)]::Qk mb .u32 l::Γ:=by
 refine Spec.Qa6 Tryz.func136 rfl Tryz.ntmps136 rfl ?_;intro w0 Γ;show S _ w0 [(0,SV.nil.v),(1,.func (.func 104) #[] #[.pointer (some ⟨c,0,none⟩)])] (blk c 82 #[.map (some mb)]::Qk mb .u32 l::Γ) _;refine S.seq fun K1 hK1=>(S.region rfl (S.op (S.box (cs:=[_]) rfl rfl rfl ?_)));intro b2;refine S.op (S.q (Jl rfl) rfl rfl (S.Cs ?_));refine hK1 _ _ (S.seq1 ?_);refine S.seq fun K4 hK4=>(S.region rfl (S.op (S.q (Z8 rfl) rfl rfl (S.Cs ?_))));refine hK4 _ _ (S.block ?_)
 refine S.Qum (fs:=[]) (cs:=[.pointer (some ⟨c,0,none⟩)]) (enc:=kv) (p:=7) (q:=5) rfl Eo.h (Qv6 c mb l) (fun done=>[D1 b2 53 31 (done.map kv)]) (Γ':=Γ) ?_ rfl rfl ?_ ?_
 ·exact(Sub.Qh (Δ:=blk c 82 #[.map (some mb)]::Qk mb .u32 l::blk b2 53 #[SV.nil.v]::Γ)).trans (Ent.cons _ (Ent.cons _ ((Ent.cons _ (Ent.Ye 31 1)).trans (Ent.D1 SV.nil rfl _))))
 ·intro y done x Θ Wq;show S _ w0 _ (D1 b2 53 31 (done.map kv)::Θ) _;refine S.D1 (b:=b2) (T:=53) (E:=31) (done:=done.map kv) fun sv Km=>?_;rw[List.length_map]at Km;refine S.Qm3 (S.Ni rfl (S.opI rfl ?_));refine(S.q (Kx Eo.h rfl rfl) rfl rfl (S.opI rfl ?_));refine(S.q (Z8 rfl) rfl rfl (S.opI rfl ?_));refine(S.buildSlice (pvs:=[(_,_)]) [_] Tryz.underlying53 Tryz.Jr.h rfl rfl ⟨⟨rfl,rfl⟩,trivial⟩ rfl rfl ?_);intro b10;refine S.opI rfl ?_;refine(S.Qu (s:=sv) 1 [kv x] Tryz.underlying53 Tryz.Jr.h rfl rfl rfl (Qy (b:=b10) rfl (show 1≤maxLen by unfold maxLen;omega)) rfl ⟨by omega,by omega⟩ rfl ?_);intro s2 Jz;refine S.opI rfl ?_;refine(S.store (cs':=[_]) Eo.h rfl rfl rfl rfl rfl (S.Qlr (S.Q8n ?_)));have e:done.map kv++[kv x]=(done++[x]).map kv:=by simp
  rw[e];exact(Sub.Qh (Δ:=blk b2 53 #[s2.v]::own s2 31 1 ((done++[x]).map kv)::Θ)).trans (Ent.D1 s2 (by simp[Jz,Km]) Θ)
 ·intro D xs D3;show S _ w0 _ (Gu D::blk c 82 #[.map (some mb)]::Qk mb .u32 l::D1 b2 53 31 (xs.map kv)::Γ) _;refine S.D1 (b:=b2) (T:=53) (E:=31) (done:=xs.map kv) fun sv Km=>?_;rw[List.length_map]at Km;refine S.Q59 (S.Qfn rfl (S.qD (Kx Eo.h rfl rfl) rfl rfl (S.qD (Jl rfl) rfl rfl (S.Q60 (S.Q6h ?_)))));exact S.Q8m (rs:=[_]) (vs:=[_]) Tryz.results136 ⟨rfl,trivial⟩ (Θ:=own sv 31 1 (xs.map kv)::blk c 82 #[.map (some mb)]::Qk mb .u32 l::Γ) ⟨sv,xs,rfl,Km,D3,rfl⟩ Sub.Qh
theorem Qsw(c mb:Nat)(l:List (Int×Value))(hl:l.length≤65535):Spec Tryz.prog 100 [.func (.func 104) #[] #[.pointer (some ⟨c,0,none⟩)]] (Qv7 c mb l) fun Γ v Θ=>∃(sv:SV) (xs:List Int),v=sv.v∧sv.n=xs.length∧xs.Perm (l.map (·.1))∧Θ=own sv 31 1 (xs.map kv)::blk c 82 #[.map (some mb)]::Qk mb .u32 l::Γ:=by
 refine Zbd Tryz.func100 rfl Tryz.ntmps100 fun w0 Γ=>Zsh (ZY 7 (Zp (Zc1 Ze (Qkn c mb l hl) ?_)));rintro v Θ ⟨sv,xs,rfl,Uj,D3,rfl⟩;refine ZY 3 ?_;exact Zf ef Zq (⟨sv,xs,rfl,Uj,D3,rfl⟩)
theorem Qkf(c mb:Nat)(l:List (Int×Value))(hl:l.length≤65535):Spec Tryz.prog 61 [.func (.func 104) #[] #[.pointer (some ⟨c,0,none⟩)]] (Qv7 c mb l) fun Γ v Θ=>∃(sv:SV) (xs:List Int),v=sv.v∧sv.n=xs.length∧xs.Perm (l.map (·.1))∧xs.Pairwise (·≤·)∧Θ=own sv 31 1 (xs.map kv)::blk c 82 #[.map (some mb)]::Qk mb .u32 l::Γ:=by
 refine Zbd Tryz.func61 rfl Tryz.ntmps61 fun w0 Γ=>Zsh (ZY 7 (Zp (Zc1 Ze (Qsw c mb l hl) ?_)));rintro v Θ ⟨sv,xs,rfl,Uj,D3,rfl⟩;have Mu:xs.length=l.length:=by rw[D3.length_eq,List.length_map]
 refine ZY 5 (Zp (Zc1 Ze (Qg2 sv xs.toArray (by simpa [Mu] using hl) (by simpa using Uj)) ?_));rintro v Θ ⟨R,P2,hR2,rfl⟩;have P2:R.toList.Perm xs:=P2;have hRl:sv.n=R.toList.length:=by rw[P2.length_eq,Uj]
 refine ZY 7 ?_;exact Zf ef Zq (⟨sv,R.toList,rfl,hRl,P2.trans D3,hR2,rfl⟩)
abbrev Rn:=Nat×Nat×Nat
abbrev rnV(p:Nat×Nat):Value:=.agg #[.int .u32 (p.1:Int),.int .u32 (p.2:Int)]
abbrev rnC(p:Nat×Nat):List Value:=[.int .u32 (p.1:Int),.int .u32 (p.2:Int)]
abbrev rnE(y:Rn):Int×Value:=((y.1:Int),rnV y.2)
abbrev Q50(c mb:Nat)(r:List Rn):List Assn:=[blk c 88 #[.map (some mb)],Qk mb .i64 (Gk r)]
theorem Qtj(c mb:Nat)(r:List Rn):Qne Tryz.prog 155 [] [.pointer (some ⟨c,0,none⟩)] rnV (fun done _=>done.length<r.length) (fun xs=>xs.Perm (r.map (·.2))) (Q50 c mb r):=by
 intro y w0 J hY Γ w hs hx;refine callsIn_wide.2 (Mn (n:=15) (l:=[.func (.yield y) #[] #[],.pointer (some ⟨c,0,none⟩)]) (Γ:=stars (J [])::blk c 88 #[.map (some mb)]::Qk mb .i64 (Gk r)::Γ) (w0:=w0) Tryz.func155 rfl Tryz.ntmps155 rfl ?_ (hs.Qh (((Ent.cons _ (Ent.cons _ (Ent.pack (J []) Γ))).trans (Ent.cons _ (Ent.swap _ _ _))).trans (Ent.swap _ _ _))) hx);show S _ w0 [(0,.func (.yield y) #[] #[]),(1,.pointer (some ⟨c,0,none⟩))] (stars (J [])::blk c 88 #[.map (some mb)]::Qk mb .i64 (Gk r)::Γ) _;refine S.seq fun K1 hK1=>(S.region rfl (S.op (S.q (Kx Eo.h rfl rfl) rfl rfl (S.op (S.range Tryz.underlying88 rfl rfl ?_)))));intro r6;first|with_reducible refine S.Cs ?_|refine S.nil ?_
 refine hK1 _ _ (S.block ?_);refine S.loop (fun m ρ' Γ'=>∃(left:List (Int×Value)) (lr:List Rn) (cur:Option (Int×Value)) (L:List (Nat×Nat)),m=left.length∧left=lr.map rnE∧(L++lr.map (·.2)).Perm (r.map (·.2))∧ρ'=[(0,.func (.yield y) #[] #[]),(6,.pointer (some ⟨r6,0,none⟩))]∧Γ'=Kj r6 mb .i64 (Gk r) left cur::stars (J L)::blk c 88 #[.map (some mb)]::Γ) (m:=_) (ρ0:=_) (Γ0:=_) (⟨Gk r,r,none,[],rfl,rfl,List.Perm.refl _,rfl,rfl⟩) (by repeat (first|exact trivial|refine⟨rfl,?_⟩)) Sub.Qh ?_;rintro m ρ' Γ' ⟨left,lr,cur,L,hm,hlr,hL,rfl,rfl⟩;refine S.seq fun K2 R0=>(S.region rfl ?_)
 refine S.op (S.Yh rfl rfl (fun hl7=>?_) (fun i7 z7 v7 hi7=>?_))
 ·have hl0:left=[]:=hl7;have Pz:lr=[]:=by rw[hl0]at hlr;exact List.map_eq_nil_iff.1 hlr.symm
  subst hl0;rw[Pz,List.map_nil,List.append_nil]at hL;refine S.op (S.q (J8 rfl rfl) rfl rfl ?_);first|with_reducible refine S.Cs ?_|refine S.nil ?_
  refine R0 _ _ ?_;refine S.seq fun K3 hK3=>(S.R2 rfl (S.exit ?_))
  with_reducible repeat (first|refine S.Vq ?_|refine S.Vp ?_|refine S.then_r ?_|refine S.Y2 ?_|refine S.inBlock_r ?_|refine S.inBlock_x rfl ?_|refine S.noGoto_r ?_|refine S.noGoto_n ?_|refine S.noGoto_x ?_)
  with_reducible refine S.Ps ?_
  with_reducible repeat (first|refine S.Vq ?_|refine S.Vp ?_|refine S.then_r ?_|refine S.Y2 ?_|refine S.inBlock_r ?_|refine S.inBlock_x rfl ?_|refine S.noGoto_r ?_|refine S.noGoto_n ?_|refine S.noGoto_x ?_)
  with_reducible repeat (first|refine S.Vq ?_|refine S.Vp ?_|refine S.then_r ?_|refine S.Y2 ?_|refine S.inBlock_r ?_|refine S.inBlock_x rfl ?_|refine S.noGoto_r ?_|refine S.noGoto_n ?_|refine S.noGoto_x ?_)
  refine S.Q8l rfl ?_;exact fun v w hs hx=>⟨⟨v,rfl⟩,_,hL,hs.Qh ((Ent.Kj _).trans ((Sub.Qh (Δ:=blk c 88 #[.map (some mb)]::Qk mb .i64 (Gk r)::stars (J L)::Γ)).trans (Ent.cons _ (Ent.cons _ (Ent.unpack _ _))))),hx⟩
 ·obtain⟨p,hp,he⟩:∃p:Rn,lr[i7]?=some p∧(z7,v7)=rnE p:=by
   rw[hlr,List.getElem?_map]at hi7;cases hg:lr[i7]? with
   | none=>rw[hg]at hi7;cases hi7
   | some p=>rw[hg]at hi7;exact⟨p,rfl,(Option.some.inj hi7).symm⟩
  obtain⟨rfl,rfl⟩:z7=(p.1:Int)∧v7=rnV p.2:=⟨congrArg Prod.fst he,congrArg Prod.snd he⟩;have Tb:=Dc hp;have hel:=Tb.length_eq;rw[List.length_cons]at hel
  have hL2:((L++[p.2])++(lr.eraseIdx i7).map (·.2)).Perm (r.map (·.2)):=by
   rw[List.append_assoc];exact(List.Perm.append_left L (Tb.map (·.2)).symm).trans hL
  have Wq:L.length<r.length:=by
   have:=hL.length_eq;rw[List.length_append,List.length_map,List.length_map]at this;omega
  have hle:left.eraseIdx i7=(lr.eraseIdx i7).map rnE:=by rw[hlr,X1]
  have hll:left.length=lr.length:=by rw[hlr,List.length_map]
  refine S.op (S.q (J8 rfl rfl) rfl rfl ?_);first|with_reducible refine S.Cs ?_|refine S.nil ?_
  refine R0 _ _ ?_;refine S.seq fun K4 hK4=>(S.Qjz rfl (S.skip ?_))
  with_reducible repeat (first|refine S.Vq ?_|refine S.Vp ?_|refine S.then_r ?_|refine S.Y2 ?_|refine S.inBlock_r ?_|refine S.inBlock_x rfl ?_|refine S.noGoto_r ?_|refine S.noGoto_n ?_|refine S.noGoto_x ?_)
  refine hK4 _ _ (S.block ?_);refine S.seq fun K5 hK5=>(S.region rfl (S.op (S.q (Gl rfl) rfl rfl (S.op (S.q (J8 rfl rfl) rfl rfl (S.op (S.alloc Tryz.z175.h rfl ?_)))))));intro b4;refine S.op (S.Qk7 (cs':=[_,_]) Eo.h rfl rfl rfl rfl rfl rfl ?_);first|with_reducible refine S.Cs ?_|refine S.nil ?_
  refine hK5 _ _ ?_;refine S.seq fun K6 hK6=>(S.Qfm rfl (S.opI rfl ?_));refine  (S.q (Z8 rfl) rfl rfl (S.opI rfl ?_));refine  (S.q (Qfq [_,_] Eo.h rfl rfl ⟨rfl,rfl,trivial⟩) rfl rfl ?_);refine S.Qky rfl rfl (fun w hs hx=>hY L p.2 (blk b4 175 (rnC p.2).toArray::Kj r6 mb .i64 (Gk r) (left.eraseIdx i7) (some ((p.1:Int),rnV p.2))::blk c 88 #[.map (some mb)]::Γ) w Wq (hs.Qh ((Ent.third _ _ _ _).trans (Ent.unpack _ _))) hx) rfl (S.Qh (Ent.pack _ _) (S.opI rfl ?_));refine  (S.q (Qob rfl) rfl rfl (S.Qlr ?_));refine hK6 _ _ (S.R2 rfl (S.skip ?_))
  with_reducible repeat (first|refine S.Vq ?_|refine S.Vp ?_|refine S.then_r ?_|refine S.Y2 ?_|refine S.inBlock_r ?_|refine S.inBlock_x rfl ?_|refine S.noGoto_r ?_|refine S.noGoto_n ?_|refine S.noGoto_x ?_)
  with_reducible repeat (first|refine S.Vq ?_|refine S.Vp ?_|refine S.then_r ?_|refine S.Y2 ?_|refine S.inBlock_r ?_|refine S.inBlock_x rfl ?_|refine S.noGoto_r ?_|refine S.noGoto_n ?_|refine S.noGoto_x ?_)
  with_reducible repeat (first|refine S.Vq ?_|refine S.Vp ?_|refine S.then_r ?_|refine S.Y2 ?_|refine S.inBlock_r ?_|refine S.inBlock_x rfl ?_|refine S.noGoto_r ?_|refine S.noGoto_n ?_|refine S.noGoto_x ?_)
  exact ZX ((left.eraseIdx i7).length) (⟨left.eraseIdx i7,lr.eraseIdx i7,some ((p.1:Int),rnV p.2),L++[p.2],rfl,hle,hL2,rfl,rfl⟩) (by rw[hle,List.length_map];omega)
theorem Qy7(mb:Nat):Spec Tryz.prog 132 [.map (some mb)] [] fun Γ v Θ=>∃c,v=.func (.func 155) #[] #[.pointer (some ⟨c,0,none⟩)]∧Θ=blk c 88 #[.map (some mb)]::Γ:=by
 refine Zbd Tryz.func132 rfl Tryz.ntmps132 fun w0 Γ=>Zsh (ZY 2 (Zp (S.box (cs:=[_]) rfl rfl rfl ?_)));intro b1;refine ZY 8 ?_;exact Zf ef Zq (⟨b1,rfl,rfl⟩)
theorem Qg9(c mb:Nat)(r:List Rn)(hl:r.length≤65535):Spec Tryz.prog 154 [.slice none 0 0,.func (.func 155) #[] #[.pointer (some ⟨c,0,none⟩)]] (Q50 c mb r) fun Γ v Θ=>∃(sv:SV) (xs:List (Nat×Nat)),v=sv.v∧sv.n=xs.length∧xs.Perm (r.map (·.2))∧Θ=own sv 175 2 (xs.flatMap rnC)::blk c 88 #[.map (some mb)]::Qk mb .i64 (Gk r)::Γ:=by
 refine Spec.Qa6 Tryz.func154 rfl Tryz.ntmps154 rfl ?_;intro w0 Γ;show S _ w0 [(0,SV.nil.v),(1,.func (.func 155) #[] #[.pointer (some ⟨c,0,none⟩)])] (blk c 88 #[.map (some mb)]::Qk mb .i64 (Gk r)::Γ) _;refine S.seq fun K1 hK1=>(S.region rfl (S.op (S.box (cs:=[_]) rfl rfl rfl ?_)));intro b2;refine S.op (S.q (Jl rfl) rfl rfl (S.Cs ?_));refine hK1 _ _ (S.seq1 ?_);refine S.seq fun K4 hK4=>(S.region rfl (S.op (S.q (Z8 rfl) rfl rfl (S.Cs ?_))));refine hK4 _ _ (S.block ?_)
 refine S.Q0y (fs:=[]) (cs:=[.pointer (some ⟨c,0,none⟩)]) (enc:=rnV) (p:=7) (q:=5) (T:=175) rnC rfl Eo.h (Qtj c mb r) (fun done=>[Qa4 b2 205 175 2 done.length (done.flatMap rnC)]) (Γ':=Γ) ?_ rfl ?_ ?_ ?_
 ·exact(Sub.Qh (Δ:=blk c 88 #[.map (some mb)]::Qk mb .i64 (Gk r)::blk b2 205 #[SV.nil.v]::Γ)).trans (Ent.cons _ (Ent.cons _ ((Ent.cons _ (Ent.Ye 175 2)).trans (Ent.Qa4 SV.nil rfl _))))
 ·intro w0 l x Δ K hK;refine S.Ni rfl (S.opI rfl ?_);refine(S.alloc Tryz.z175.h rfl ?_);intro b5;refine S.opI rfl ?_;refine(S.Qk7 (cs':=[_,_]) Eo.h rfl rfl rfl rfl rfl rfl (S.Qlr ?_));exact hK b5
 ·intro y b5 done x Θ Wq;show S _ w0 _ (blk b5 175 (rnC x).toArray::Qa4 b2 205 175 2 done.length (done.flatMap rnC)::Θ) _;refine S.Qa4 (b:=b2) (T:=205) (E:=175) (sz:=2) (m:=done.length) (done:=done.flatMap rnC) fun sv Km=>(S.Qm3 (S.Ni rfl (S.opI rfl ?_)));refine(S.q (Kx Eo.h rfl rfl) rfl rfl (S.opI rfl ?_));refine(S.q (Qfq [_,_] Eo.h rfl rfl ⟨rfl,rfl,trivial⟩) rfl rfl (S.opI rfl ?_));refine(S.buildSlice (pvs:=[(_,_)]) [_,_] Tryz.underlying205 Tryz.Qwf.h rfl rfl ⟨⟨rfl,rfl⟩,trivial⟩ rfl rfl ?_);intro b10;refine S.opI rfl ?_;refine(S.Qu (s:=sv) 1 (rnC x) Tryz.underlying205 Tryz.Qwf.h rfl rfl rfl (Qy (b:=b10) rfl (show 1≤maxLen by unfold maxLen;omega)) rfl ⟨by omega,by omega⟩ rfl ?_);intro s2 Jz;refine S.opI rfl ?_;refine(S.store (cs':=[_]) Eo.h rfl rfl rfl rfl rfl (S.Qlr (S.Q8n ?_)));have e:done.flatMap rnC++rnC x=(done++[x]).flatMap rnC:=Xg rnC done x;rw[e];exact(Sub.Qh (Δ:=blk b2 205 #[s2.v]::own s2 175 2 ((done++[x]).flatMap rnC)::Θ)).trans (Ent.Qa4 s2 (by simp[Jz,Km]) Θ)
 ·intro D xs D3;show S _ w0 _ (Gu D::blk c 88 #[.map (some mb)]::Qk mb .i64 (Gk r)::Qa4 b2 205 175 2 xs.length (xs.flatMap rnC)::Γ) _;refine S.Qa4 (b:=b2) (T:=205) (E:=175) (sz:=2) (m:=xs.length) (done:=xs.flatMap rnC) fun sv Km=>(S.Q59 (S.Qfn rfl (S.qD (Kx Eo.h rfl rfl) rfl rfl (S.qD (Jl rfl) rfl rfl (S.Q60 (S.Q6h ?_))))));exact S.Q8m (rs:=[_]) (vs:=[_]) Tryz.results154 ⟨rfl,trivial⟩ (Θ:=own sv 175 2 (xs.flatMap rnC)::blk c 88 #[.map (some mb)]::Qk mb .i64 (Gk r)::Γ) ⟨sv,xs,rfl,Km,D3,rfl⟩ Sub.Qh
theorem Qng(c mb:Nat)(r:List Rn)(hl:r.length≤65535):Spec Tryz.prog 131 [.func (.func 155) #[] #[.pointer (some ⟨c,0,none⟩)]] (Q50 c mb r) fun Γ v Θ=>∃(sv:SV) (xs:List (Nat×Nat)),v=sv.v∧sv.n=xs.length∧xs.Perm (r.map (·.2))∧Θ=own sv 175 2 (xs.flatMap rnC)::blk c 88 #[.map (some mb)]::Qk mb .i64 (Gk r)::Γ:=by
 refine Zbd Tryz.func131 rfl Tryz.ntmps131 fun w0 Γ=>Zsh (ZY 7 (Zp (Zc1 Ze (Qg9 c mb r hl) ?_)));rintro v Θ ⟨sv,xs,rfl,Uj,D3,rfl⟩;refine ZY 3 ?_;exact Zf ef Zq (⟨sv,xs,rfl,Uj,D3,rfl⟩)
end BN
section
variable {P:Program}{n:Nat}{md:Bool}{w0:WM md}{ρ:Env}{Γ:List Assn}{Q:Exit→Act→World→Prop}{K:Act→World→Prop}{ty:TypeId}{pos:String}{af:Array Edge}{gd:Option (Nat×Bool)}
theorem Ab(z:Array Value)(m:Nat):(Builtin.zeroCells z m).toList.length=m*z.size:=by simp[Builtin.zeroCells]
theorem Qco{z:Array Value}(h:∀u∈z.toList,u.oneCell'=true)(m:Nat):∀u∈(Builtin.zeroCells z m).toList,u.oneCell'=true:=by
 intro u hu;simp only[Builtin.zeroCells,Array.toList_map,List.mem_map]at hu;obtain⟨i,hi,rfl⟩:=hu;have D6:i<m*z.size:=by simpa using hi
 have hz:0<z.size:=by
  rcases Nat.eq_zero_or_pos z.size with e|e
  ·rw[e,Nat.mul_zero]at D6;omega
  ·exact e
 have Wq:=Nat.mod_lt i hz;rw[getElem!_pos z (i % z.size) Wq];exact h _ (by simp)
theorem Qah{w:World}{t e:TypeId}{ii:TypeInfo}{z:Value}(m:Nat)(hm:0<m)(hu:P.underlying t=some (.slice e))(hi:P.info? e=some ii)(hz:ii.zero=some z)(g off cap:Nat)(cur:Array Value)(hg:Blk w g e cur)(Qgk:off+m*z.cells.size≤cur.size)(h1:∀u∈z.cells.toList,u.oneCell'=true) :
  (Builtin.clear_ #[t] ty #[.slice (some ⟨g,off,none⟩) m cap]).run P w=.ok (.tuple #[]) (w.setRow g (cur.toList.take off++(Builtin.zeroCells z.cells m).toList++cur.toList.drop (off+(Builtin.zeroCells z.cells m).toList.length)).toArray):=by
 have Xf:=run_storeCells_at P g off e (Builtin.zeroCells z.cells m).toList 0 cur w hg (by rw[Ab];simpa using Qgk) (Qco h1 m);simp only[Nat.add_zero]at Xf;obtain⟨k,rfl⟩:∃k,m=k+1:=⟨m-1,by omega⟩;simp[Builtin.clear_,run_underlying hu,zeroValue,typeInfo,hi,hz,Xf]
theorem S.Qmy{t e sz by_:Nat}{zs:List Value}{x:Operand}(s:SV)(m:Nat){xs:List Value}{p:Option Addr}{q cc:Nat}{Δ:List Assn}{b off:Nat}(hu:P.underlying t=some (.slice e))(hi:Vl P e=some (zs,sz,by_))(hzl:Nat.beq zs.length sz=true)(hz1:Hf zs=true)(hx:ev ρ x=some (.slice p q cc))[h:Wx Γ s e sz xs Δ](hp:s.a=some ⟨b,off,none⟩)
  (hq:q=m) (hpp:0<m→p=some ⟨b,off+s.n*sz,none⟩) (hc:s.n+m≤s.c) (k:S n w0 ρ (own s e sz xs::Δ) K) :
  S n w0 ρ Γ (Ow P Q ⟨none,.call {callee:=.builtin .clear,args:=#[x],argTypes:=#[t]},ty,pos,af,gd⟩ K):=by
 intro a w ha hs Dx;subst hq
 rcases Nat.eq_zero_or_pos q with hm0|hm0
 ·subst hm0
  have hr0:(Builtin.clear_ #[t] ty #[.slice p 0 cc]).run P w=.ok (.tuple #[]) w:=by
   cases p <;> simp[Builtin.clear_,run_underlying hu]
  have hr:(execOp a.eval ⟨none,.call {callee:=.builtin .clear,args:=#[x],argTypes:=#[t]},ty,pos,af,gd⟩).run P w=.ok (.value (.tuple #[])) w:=by
   simp[execOp,ha.ev hx,resolve,invoke,builtin,hr0]
  unfold Ow Oper.wp;rw[hr,Oper.upon_value];exact k _ _ (ha.Jm _) (hs.Qh h.Qh) Dx
 have hpp:=hpp hm0;subst hpp;unfold Vl at hi;split at hi
 case h_2=>cases hi
 rename_i i hi';split at hi
 case h_2=>cases hi
 rename_i z hz;simp only[Option.some.injEq,Prod.mk.injEq]at hi;obtain⟨rfl,rfl,rfl⟩:=hi;have hzs:=Nat.eq_of_beq_eq_true hzl;have hO:=h.own hs;obtain⟨sa,sn,sc⟩:=s;simp only at hp hc hx hO;subst hp;have hlen:=hO.1
 rcases hO.2 with ⟨h0,_⟩|⟨b',off',c',cur,q1,q2,hB,q4,q5,q6,q7⟩
 ·cases h0
 simp only[SV.v,Value.slice.injEq,Option.some.injEq,Addr.mk.injEq,and_true,true_and]at q1;obtain⟨⟨rfl,rfl⟩,rfl⟩:=q1;have hcm:(sn+q)*i.size≤sc*i.size:=Nat.mul_le_mul_right _ hc;rw[Nat.add_mul]at hcm;have Za7:z.cells.size=i.size:=by simpa using hzs
 have Qgk:off+sn*i.size+q*z.cells.size≤cur.size:=by rw[Za7];omega
 have Zi4:(Builtin.zeroCells z.cells q).toList.length=q*i.size:=by rw[Ab,Za7]
 have hr0:=Qah (P:=P) (ty:=ty) q hm0 hu hi' hz b (off+sn*i.size) cc cur hB Qgk (fun v hv=>List.all_eq_true.1 hz1 v hv)
 have hr:(execOp a.eval ⟨none,.call {callee:=.builtin .clear,args:=#[x],argTypes:=#[t]},ty,pos,af,gd⟩).run P w=.ok (.value (.tuple #[])) (w.setRow b (cur.toList.take (off+sn*i.size)++(Builtin.zeroCells z.cells q).toList++cur.toList.drop (off+sn*i.size+(Builtin.zeroCells z.cells q).toList.length)).toArray):=by
  simp[execOp,ha.ev hx,resolve,invoke,builtin,hr0]
 unfold Ow Oper.wp;rw[hr,Oper.upon_value];refine k _ _ (ha.Jm _) ?_ (Dx.trans ⟨rfl,rfl,rfl,by simp[World.setRow],Nat.le_refl _⟩)
 refine(hs.Qh h.Qh).Qa2 (b:=b) ⟨hlen,.inr ⟨b,off,sc,_,rfl,rfl,setRow_heap w b cur _ e _ hB,q4,q5,?_,?_⟩⟩ rfl ⟨rfl,rfl,rfl,by simp[World.setRow],fun k _ hk=>setRow_other w b k _ hk,Nat.le_refl _⟩
 ·simp only[List.size_toArray,List.length_append,List.length_take,List.length_drop,Array.length_toList];omega
 ·have Wq:(cur.toList.take (off+sn*i.size)).length=off+sn*i.size:=by simp;omega
  simp only;rw[List.append_assoc,List.drop_append_of_le_length (by omega),←q7,List.drop_take];have e2:off+sn*i.size-off=sn*i.size:=by omega
  rw[e2,List.take_left' (by rw[List.length_take,List.length_drop,Array.length_toList];omega)]
end
namespace BN
def oI(r:Option Nat):Int:=match r with
 | some i=>(i:Int)
 | none=>-1
theorem Qg5(R:Assn)(s:SV)(l:List Nat)(n:Int)(Uj:s.n=l.length)(hR:RdS R s s.n 1 (nds l)):Spec Tryz.prog 93 [s.v,.int .i64 n] [R] fun Γ v Θ=>(∃r:Option Nat,v=.int .i64 (oI r)∧(r=none→∀x∈l,(x:Int)≠n)∧∀i,r=some i→∃x:Nat,l[i]?=some x∧(x:Int)=n∧∀y∈l.take i,(y:Int)≠n)∧Θ=R::Γ:=by
 refine Zbd Tryz.func93 rfl Tryz.ntmps93 fun w0 Γ=>Zsh ?_;refine S.Nk hR fun _ hc1 hc2=>(ZY 8 (ZY 4 ?_));refine Zl (fun q ρ' Γ'=>∃i:Nat,q=l.length-i∧i≤l.length∧(∀y∈l.take i,(y:Int)≠n)∧ρ'=[(0,s.v),(1,.int .i64 n),(7,.int .i64 (s.n:Int)),(8,.int .i64 (i:Int))]∧Γ'=R::Γ) (m:=_) (⟨0,rfl,by omega,fun y hy=>(by cases hy),rfl,rfl⟩) ?_;rintro q ρ' Γ' ⟨i,hq,hi,Vb,rfl,rfl⟩;refine ZY 5 ?_
 refine Zj ef (fun h1=>?_) (fun h1=>?_)
 ·refine S.F6 hR (by omega) fun sb so Q4=>?_;obtain⟨x,hx⟩:=Yv (show i<l.length by omega);have Hd:l.take (i+1)=l.take i++[x]:=by rw[List.take_add_one,hx];rfl
  refine ZY 8 (ZY 5 (Zv (Zx (i) ef (Q4) ef (by omega)) ?_));refine Zv (Fb hR i Eo.h rfl Q4 (by omega) (by omega) (by rw[List.getElem?_map,hx];rfl)) ?_;refine ZY 2 ?_
  refine Zj ef (fun h2=>?_) (fun h2=>?_)
  ·refine ZY 6 ?_;exact Zf ef Zq (⟨⟨some i,rfl,fun h=>(by cases h),fun j hj=>by cases hj;exact⟨x,hx,h2.symm,Vb⟩⟩,rfl⟩)
  ·have Ql7:∀y∈l.take (i+1),(y:Int)≠n:=fun y hy=>by
    rw[Hd,List.mem_append,List.mem_singleton]at hy
    rcases hy with hy|rfl
    ·exact Vb y hy
    ·exact fun e=>h2 e.symm
   refine ZY 2 (Zv (Za ef ef) (ZY 2 ?_));exact ZX (q-1) (⟨i+1,by omega,by omega,Ql7,rfl,rfl⟩) (by omega)
 ·rw[show i=l.length by omega,List.take_length]at Vb;refine ZY 6 ?_;exact Zf ef Zq (⟨⟨none,rfl,fun _=>Vb,fun j hj=>(by cases hj)⟩,rfl⟩)
theorem Mr(R:Assn)(s:SV)(l:List Nat)(n:Nat)(Uj:s.n=l.length)(hR:RdS R s s.n 1 (nds l)):Spec Tryz.prog 51 [s.v,.int .i64 (n:Int)] [R] fun Γ v Θ=>v=.bool (decide (n∈l))∧Θ=R::Γ:=by
 refine Zbd Tryz.func51 rfl Tryz.ntmps51 fun w0 Γ=>Zsh (ZY 8 (Zp (Zc1 Ze (Qg5 R s l (n:Int) Uj hR) ?_)));rintro v Θ ⟨⟨r,rfl,h1,h2⟩,rfl⟩
 have hb:decide (n∈l)=decide ((0:Int)≤oI r):=by
  cases r with
  | none=>rw[decide_eq_false (fun hm=>h1 rfl n hm rfl)];rfl
  | some i=>
   obtain⟨x,hx,e,_⟩:=h2 i rfl;rw[decide_eq_true (show n∈l from (show x=n by omega) ▸ List.mem_of_getElem? hx),decide_eq_true (show (0:Int)≤oI (some i) from by show (0:Int)≤(i:Int);omega)]
 refine ZY 4 ?_;exact Zf ef Zq (⟨by rw[hb];rfl,rfl⟩)
theorem Qo3(t:Nat)(n:Int)(o:Od):Spec Tryz.prog 49 [.agg (odC o).toArray,pt t] [blk t 3 #[.int .i64 n]] fun Γ v Θ=>v=.bool (decide ((o.1:Int)=n))∧Θ=blk t 3 #[.int .i64 n]::Γ:=by
 refine Zbd Tryz.func49 rfl Tryz.ntmps49 fun w0 Γ=>Zsh (ZY 2 (Zp (S.box (cs:=[_,_,_,_,_,_,_,_,_,_,_,_,_,_]) rfl rfl rfl ?_)));intro b2;refine ZY 8 (ZY 3 ?_);exact Zf ef Zq (⟨rfl,rfl⟩)
abbrev Qo2(t:Nat):Value:=.func (.func 49) #[] #[pt t]
theorem Qze(t:Nat)(n:Int)(s:SV)(os:List Od)(Uj:s.n=os.length):Spec Tryz.prog 92 [s.v,Qo2 t] [own s 97 14 (os.flatMap odC),blk t 3 #[.int .i64 n]] fun Γ v Θ=>(∃r:Option Nat,v=.int .i64 (oI r)∧(r=none→∀x∈os,(x.1:Int)≠n)∧∀i,r=some i→∃x:Od,os[i]?=some x∧(x.1:Int)=n∧∀y∈os.take i,(y.1:Int)≠n)∧Θ=own s 97 14 (os.flatMap odC)::blk t 3 #[.int .i64 n]::Γ:=by
 refine Zbd Tryz.func92 rfl Tryz.ntmps92 fun w0 Γ=>Zsh ?_;refine S.Yf s fun Pz Gq Si=>?_;have hmx:maxLen≤9223372036854775807:=by unfold maxLen;omega
 refine ZY 8 (ZY 4 ?_);refine Zl (fun q ρ' Γ'=>∃i:Nat,q=os.length-i∧i≤os.length∧(∀y∈os.take i,(y.1:Int)≠n)∧ρ'=[(0,s.v),(1,Qo2 t),(7,.int .i64 (s.n:Int)),(8,.int .i64 (i:Int))]∧Γ'=own s 97 14 (os.flatMap odC)::blk t 3 #[.int .i64 n]::Γ) (m:=_) (⟨0,rfl,by omega,fun y hy=>(by cases hy),rfl,rfl⟩) ?_;rintro q ρ' Γ' ⟨i,hq,hi,Vb,rfl,rfl⟩;refine ZY 5 ?_
 refine Zj ef (fun h1=>?_) (fun h1=>?_)
 ·refine S.Qp s (by omega) fun sb so Q4 _ _ _=>?_;obtain⟨x,hx⟩:=Yv (show i<os.length by omega);have Hd:os.take (i+1)=os.take i++[x]:=by rw[List.take_add_one,hx];rfl
  refine ZY 8 (ZY 5 (Zv (Zx (i) ef (Q4) ef (by omega)) (Zv (X4 (s) (i*14) [_,_,_,_,_,_,_,_,_,_,_,_,_,_] Eo.h rfl Q4 (by first|rfl|exact Nat.add_assoc _ _ _|omega) rfl (Y8 (enc:=odC) (sz:=14) Nw hx)) ?_)));refine Zp (S.Qpw (fs:=[]) (cs:=[pt t]) (vs:=[_]) Eo.h rfl ⟨rfl,trivial⟩ (Qo3 t n x) rfl ?_);rintro v Θ ⟨rfl,rfl⟩;refine Zy ?_
  refine Zj ef (fun h2=>?_) (fun h2=>?_)
  ·refine ZY 6 ?_;exact Zf ef Zq (⟨⟨some i,rfl,fun h=>(by cases h),fun j hj=>by cases hj;exact⟨x,hx,h2,Vb⟩⟩,rfl⟩)
  ·have Ql7:∀y∈os.take (i+1),(y.1:Int)≠n:=fun y hy=>by
    rw[Hd,List.mem_append,List.mem_singleton]at hy
    rcases hy with hy|rfl
    ·exact Vb y hy
    ·exact h2
   refine ZY 2 (Zv (Za ef ef) (ZY 2 ?_));exact ZX (q-1) (⟨i+1,by omega,by omega,Ql7,rfl,rfl⟩) (by omega)
 ·rw[show i=os.length by omega,List.take_length]at Vb;refine ZY 6 ?_;exact Zf ef Zq (⟨⟨none,rfl,fun _=>Vb,fun j hj=>(by cases hj)⟩,rfl⟩)
theorem Qzh(t n:Nat)(s:SV)(os:List Od)(Uj:s.n=os.length):Spec Tryz.prog 48 [s.v,Qo2 t] [own s 97 14 (os.flatMap odC),blk t 3 #[.int .i64 (n:Int)]] fun Γ v Θ=>∃u:SV,v=u.v∧u.n=(os.filter fun o=>decide (o.1≠n)).length∧Θ=own u 97 14 ((os.filter fun o=>decide (o.1≠n)).flatMap odC)::blk t 3 #[.int .i64 (n:Int)]::Γ:=by
 refine Zbd Tryz.func48 rfl Tryz.ntmps48 fun w0 Γ=>Zsh ?_;refine S.Yf s fun Pz Gq Si=>?_;have hmx:maxLen≤9223372036854775807:=by unfold maxLen;omega
 have Q4y:∀l:List Od,(∀y∈l,(y.1:Int)≠(n:Int))→l.filter (fun o=>decide (o.1≠n))=l:=fun l h=>List.filter_eq_self.2 fun y hy=>decide_eq_true (by have:=h y hy;omega);refine ZY 8 (Zp (Zc1 Ze (Qze t n s os Uj) ?_));rintro v Θ ⟨⟨r,rfl,hr1,Ca⟩,rfl⟩;refine ZY 8 ?_
 refine Zj ef (fun h1=>?_) (fun h1=>?_)
 ·have hrn:r=none:=by cases r with|none=>rfl|some i=>exact absurd h1 (by show ¬(i:Int)=-1;omega)
  have hfl:=Q4y os (hr1 hrn);refine ZY 6 ?_;exact Zf ef Zq (⟨s,rfl,by rw[hfl];exact Uj,by rw[hfl]⟩)
 ·obtain⟨i0,hi0⟩:∃i,r=some i:=by cases r with|none=>exact absurd rfl h1|some i=>exact⟨i,rfl⟩
  obtain⟨x0,Ta,Z4,hx2⟩:=Ca i0 hi0;subst hi0;have Zko:=(List.getElem?_eq_some_iff.1 Ta).1;have Zfe:os.take (i0+1)=os.take i0++[x0]:=by rw[List.take_add_one,Ta];rfl
  have hf0:os.take i0=(os.take (i0+1)).filter fun o=>decide (o.1≠n):=by
   rw[Zfe,List.filter_append,Q4y _ hx2];have hxn:x0.1=n:=by omega
   simp[hxn]
  rw[show oI (some i0)=(i0:Int) from rfl];refine ZY 5 (Zv (Fc rfl rfl (Y0 (by omega) (by omega))) (ZY 3 ?_));refine Zl (fun q ρ' Γ'=>∃(i j:Nat) (cur:List Od),q=os.length-j∧i<j∧j≤os.length∧cur.length=os.length∧cur.take i=(os.take j).filter (fun o=>decide (o.1≠n))∧cur.drop j=os.drop j∧ρ'=[(0,s.v),(1,Qo2 t),(5,.int .i64 (i:Int)),(6,.int .i64 (j:Int))]∧Γ'=own s 97 14 (cur.flatMap odC)::blk t 3 #[.int .i64 (n:Int)]::Γ) (m:=_) (⟨i0,i0+1,os,rfl,by omega,by omega,rfl,hf0,rfl,rfl,rfl⟩) ?_;rintro q ρ' Γ' ⟨i,j,cur,hq,hij,hj,hcl,hci,hcd,rfl,rfl⟩;refine ZY 8 ?_
  refine Zj ef (fun h2=>?_) (fun h2=>?_)
  ·refine S.Qp s (by omega) fun sb so Q4 _ _ _=>?_;obtain⟨x,hx⟩:=Yv (show j<os.length by omega)
   have hxc:cur[j]?=some x:=by
    have:=congrArg (fun l:List Od=>l[0]?) hcd;simp only[List.getElem?_drop,Nat.add_zero]at this;rw[this,hx]
   have Hd:os.take (j+1)=os.take j++[x]:=by rw[List.take_add_one,hx];rfl
   have Q76:cur.drop (j+1)=os.drop (j+1):=by rw[←List.drop_drop,hcd,List.drop_drop]
   refine ZY 7 (Zv (Zx (j) ef (Q4) ef (by omega)) (Zv (X4 (s) (j*14) [_,_,_,_,_,_,_,_,_,_,_,_,_,_] Eo.h rfl Q4 (by first|rfl|exact Nat.add_assoc _ _ _|omega) rfl (Y8 (enc:=odC) (sz:=14) Nw hxc)) (Zp (S.alloc Tryz.z97.h rfl ?_))));intro b7;refine Zp (Zs ef ef (cs':=[_,_,_,_,_,_,_,_,_,_,_,_,_,_]) ef (ZY 5 ?_));refine Zp (S.Qpw (fs:=[]) (cs:=[pt t]) (vs:=[_]) Eo.h rfl ⟨rfl,trivial⟩ (Qo3 t n x) rfl ?_);rintro v Θ ⟨rfl,rfl⟩;refine ZY 2 ?_
   refine Zi ef (fun h3=>?_) (fun h3=>?_)
   ·have Uk:x.1≠n:=fun e=>by rw[decide_eq_true (show (x.1:Int)=n by omega)]at h3;cases h3
    have hil:i<cur.length:=by omega
    have Qxi:(cur.set i x).take (i+1)=(os.take (j+1)).filter fun o=>decide (o.1≠n):=by
     rw[Hd,List.filter_append,←hci,List.take_add_one,List.getElem?_set_self hil,List.take_set_of_le (Nat.le_refl i)];simp[Uk]
    have Zcj:(cur.set i x).drop (j+1)=os.drop (j+1):=by rw[List.drop_set_of_lt (by omega),Q76]
    refine ZY 5 (Zv (Zx (i) ef (Q4) ef (by omega)) ?_);refine Zp (S.Tx (s) (i*14) Eo.h rfl rfl rfl rfl Q4 (by first|rfl|exact Nat.add_assoc _ _ _|omega) (by rw[Z3 Nw];show i*14+14≤_;omega) (Qb2 Nw hil x) (ZY 3 (Zv (Fc rfl rfl (Y0 (by omega) (by omega))) (ZY 4 (Zv (Fc rfl rfl (Y0 (by omega) (by omega))) (ZY 2 ?_))))));first|exact ZX (q-1) ⟨i+1,j+1,cur.set i x,by omega,by omega,by omega,by rw[List.length_set];exact hcl,Qxi,Zcj,rfl,rfl⟩ (by omega)|exact ZX (q-1) ⟨i,j+1,cur,by omega,by omega,by omega,hcl,Qxi,Q76,rfl,rfl⟩ (by omega)
   ·have heq:x.1=n:=by
     have:=of_decide_eq_true (p:=(x.1:Int)=n) (by simpa using h3);omega
    have Qxi:cur.take i=(os.take (j+1)).filter fun o=>decide (o.1≠n):=by
     rw[Hd,List.filter_append,←hci];simp[heq]
    refine ZY 3 (Zv (Fc rfl rfl (Y0 (by omega) (by omega))) (ZY 2 ?_));first|exact ZX (q-1) ⟨i+1,j+1,cur.set i x,by omega,by omega,by omega,by rw[List.length_set];exact hcl,Qxi,Zcj,rfl,rfl⟩ (by omega)|exact ZX (q-1) ⟨i,j+1,cur,by omega,by omega,by omega,hcl,Qxi,Q76,rfl,rfl⟩ (by omega)
  ·have hjl:j=os.length:=by omega
   rw[hjl,List.take_length]at hci;refine S.Qp s (by omega) fun sb so Q4 _ _ _=>(S.conv (own s 97 14 (cur.flatMap odC)) (Ent.Qfw s 97 14 (cur.flatMap odC) (k:=i) (by omega) _) ?_);rw[Bu Nw,hci];refine ZY 5 (Zv (Qid i Eo.h rfl rfl rfl (by omega)) ?_);refine Zp (S.Qmy ⟨s.a,i,s.c⟩ (s.n-i) Tryz.underlying37 Tryz.Qwd.h rfl rfl rfl Q4 rfl (fun _=>by rw[if_neg (by omega),Q4];simp[Addr.add]) (by show i+(s.n-i)≤s.c;omega) (ZY 5 (Zv (Pa (i) Eo.h rfl rfl rfl (by omega)) (ZY 3 ?_))));exact Zf ef Zq (⟨⟨s.a,i,s.c⟩,rfl,by rw[←hci,List.length_take];show i=_;omega,rfl⟩)
theorem Sd(n:Nat)(hn:n≤1099511627776):Spec Tryz.prog 125 [.int .i64 (n:Int)] [] fun Γ v Θ=>v=.int .i64 (n:Int)∧Θ=Γ:=by
 refine Zbd Tryz.func125 rfl Tryz.ntmps125 fun w0 Γ=>Zsh (ZY 7 ?_);refine Zv (Nl ((n:Int)) rfl rfl (⟨by omega,by omega,by omega⟩)) ?_;refine Zv (Qie ((n:Int)) rfl rfl (⟨by omega,by omega,by omega⟩)) (ZY 3 ?_);exact Zf ef Zq (⟨rfl,rfl⟩)
theorem Q8w(a b:Nat)(ha:a≤549755813888)(hb:b≤549755813888):Spec Tryz.prog 134 [.int .i64 (a:Int),.int .i64 (b:Int)] [] fun Γ v Θ=>v=.int .i64 (a+b:Nat)∧Θ=Γ:=by
 refine Zbd Tryz.func134 rfl Tryz.ntmps134 fun w0 Γ=>Zsh (ZY 7 (Zp (Zcp Ze (Sd a (by omega)) (Zy (Zp (Zcp Ze (Sd b (by omega)) (Zv (Za ef ef) (Zp (Zcp Ze (Sd (a+b) (by omega)) (ZY 3 ?_))))))))));exact Zf ef Zq (⟨rfl,rfl⟩)
theorem Q8q(a b:Nat)(ha:a≤1099511627776)(hb:b≤a):Spec Tryz.prog 145 [.int .i64 (a:Int),.int .i64 (b:Int)] [] fun Γ v Θ=>v=.int .i64 (a-b:Nat)∧Θ=Γ:=by
 refine Zbd Tryz.func145 rfl Tryz.ntmps145 fun w0 Γ=>Zsh (ZY 7 (Zp (Zcp Ze (Sd a (by omega)) (Zy (Zp (Zcp Ze (Sd b (by omega)) (Zv (Zm ef ef) ?_)))))));rw[show (a:Int)-(b:Int)=((a-b:Nat):Int) by omega];refine Zp (Zcp Ze (Sd (a-b) (by omega)) (ZY 3 ?_));exact Zf ef Zq (⟨rfl,rfl⟩)
theorem Q7a(a b:Nat)(ha:a≤1099511627776)(hb:b≤a):Spec Tryz.prog 112 [.int .i64 (a:Int),.int .i64 (b:Int)] [] fun Γ v Θ=>v=.int .i64 (a-b:Nat)∧Θ=Γ:=by
 refine Zbd Tryz.func112 rfl Tryz.ntmps112 fun w0 Γ=>Zsh (ZY 8 (Zp (Zcp Ze (Q8q a b ha hb) (ZY 3 ?_))));exact Zf ef Zq (⟨rfl,rfl⟩)
theorem Q7b(a b:Nat)(ha:a≤1099511627776)(hb:b≤1099511627776):Spec Tryz.prog 133 [.int .i64 (a:Int),.int .i64 0,.int .i64 (b:Int)] [] fun Γ v Θ=>v=.int .i64 (min a b:Nat)∧Θ=Γ:=by
 refine Zbd Tryz.func133 rfl Tryz.ntmps133 fun w0 Γ=>Zsh (ZY 7 (Zp (Zcp Ze (Sd a ha) (Zy (Zp (Zcp Ze (Sd 0 (by omega)) ?_))))));refine Zv (Nl ((a:Int)) rfl rfl (⟨by omega,by show ((0:Nat):Int)≤_;omega,by omega⟩)) (Zy (Zp (Zcp Ze (Sd b hb) ?_)));refine Zv (Qie (((min a b:Nat):Int)) rfl rfl (⟨by omega,by omega,by omega⟩)) (ZY 3 ?_);exact Zf ef Zq (⟨rfl,rfl⟩)
theorem Qga(t n:Nat)(ht:t≤4294967295)(hn:n≤1000000):Spec Tryz.prog 83 [.int .u32 (t:Int),.int .i64 (n:Int)] [] fun Γ v Θ=>v=.int .u32 (Ys t n:Nat)∧Θ=Γ:=by
 refine Zbd Tryz.func83 rfl Tryz.ntmps83 fun w0 Γ=>Zsh ?_;have hl:Ys t n=min (t+n) 4294967295:=rfl;refine ZY 7 ?_;refine Zv (Xw Tryz.it3.h (by rw[Tryz.underlying31];rfl) rfl (Y0 (by omega) (by omega))) (Zy (Zp (Zcp Ze (Sd n (by omega)) (Zv (Za ef ef) ?_))));refine Zv (Qie (((Ys t n:Nat):Int)) rfl rfl (⟨by omega,by omega,by omega⟩)) ?_;refine Zv (Xw Tryz.Q7e.h (by rw[Tryz.underlying3];rfl) rfl (Qpc (by omega) (by omega))) (ZY 3 ?_);exact Zf ef Zq (⟨rfl,rfl⟩)
theorem Qa3{l m:List (Nat×Nat)}(h:l.Perm m):∀a,Xr l a=Xr m a:=by
 induction h with
 | nil=>exact fun _=>rfl
 | cons x _ ih=>exact fun a=>by rw[Xr,Xr,ih]
 | swap x y l=>
  intro a;simp only[Xr];have e:((max (max a.1 y.1) x.1,min (min a.2 y.2) x.2):Nat×Nat)=(max (max a.1 x.1) y.1,min (min a.2 x.2) y.2):=Prod.ext (by show max (max a.1 y.1) x.1=max (max a.1 x.1) y.1;omega) (by show min (min a.2 y.2) x.2=min (min a.2 x.2) y.2;omega);rw[e];split <;> split <;> rfl
 | trans _ _ ih1 ih2=>exact fun a=>(ih1 a).trans (ih2 a)
theorem Qcu{l m:List (Nat×Nat)}(h:l.Perm m):Xs l=Xs m:=by
 unfold Xs;rw[Qa3 h];have:(l=[])↔m=[]:=⟨fun e=>by subst e;exact h.nil_eq.symm,fun e=>by subst e;exact h.eq_nil⟩
 by_cases e:l=[]
 ·rw[if_pos e,if_pos (this.1 e)]
 ·rw[if_neg e,if_neg (fun q=>e (this.2 q))]
theorem Qik(l:List (Nat×Nat)):Xs l≤4294967296:=by
 have key:∀(l:List (Nat×Nat)) (a p:Nat×Nat),a.2≤4294967295→Xr l a=some p→p.2≤4294967295:=by
  intro l;induction l with
  | nil=>intro a p h e;cases e;exact h
  | cons x l ih=>
   intro a p h e;rw[Xr]at e
   split at e
   ·cases e
   ·exact ih _ _ (show min a.2 x.2≤_ by omega) e
 unfold Xs
 split
 ·omega
 ·split
  ·omega
  ·rename_i f t e;have:=key _ _ _ (by show 4294967295≤4294967295;omega) e
   split
   ·omega
   ·have:t≤4294967295:=this;omega
theorem Qqw(sv:SV)(xs:List (Nat×Nat))(Uj:sv.n=xs.length)(hb:∀x∈xs,x.1≤4294967295∧x.2≤4294967295):Spec Tryz.prog 130 [sv.v] [own sv 175 2 (xs.flatMap rnC)] fun Γ v Θ=>v=.int .i64 (Xs xs:Nat)∧Θ=own sv 175 2 (xs.flatMap rnC)::Γ:=by
 refine Zbd Tryz.func130 rfl Tryz.ntmps130 fun w0 Γ=>Zsh ?_;refine S.Yf sv fun Pz Gq Si=>?_;have hmx:maxLen≤9223372036854775807:=by unfold maxLen;omega
 refine ZY 8 (ZY 3 ?_)
 refine Zj ef (fun h1=>?_) (fun h1=>?_)
 ·have he:xs=[]:=List.eq_nil_of_length_eq_zero (by omega);refine ZY 5 ?_;exact Zf ef Zq (⟨by subst he;rfl,rfl⟩)
 ·have Uk:xs≠[]:=fun e=>by rw[e]at Uj;exact absurd (show sv.n=0 from Uj) (by omega)
  refine ZY 8 (ZY 6 ?_);refine Zl (fun q ρ' Γ'=>∃(i f u:Nat),q=xs.length-i∧i≤xs.length∧f≤4294967295∧u≤4294967295∧Xr xs (0,4294967295)=Xr (xs.drop i) (f,u)∧ρ'=[(0,sv.v),(3,.int .u32 (f:Int)),(4,.int .u32 (u:Int)),(10,sv.v),(11,.int .i64 (sv.n:Int)),(12,.int .i64 (i:Int))]∧Γ'=own sv 175 2 (xs.flatMap rnC)::Γ) (m:=_) (⟨0,0,4294967295,rfl,by omega,by omega,by omega,rfl,rfl,rfl⟩) ?_;rintro q ρ' Γ' ⟨i,f,u,hq,hi,hf,hu,hup,rfl,rfl⟩;refine ZY 5 ?_
  refine Zj ef (fun h2=>?_) (fun h2=>?_)
  ·refine S.Qp sv (by omega) fun sb so Q4 _ _ _=>?_;obtain⟨x,hx⟩:=Yv (show i<xs.length by omega);have hxb:=hb x (List.mem_of_getElem? hx)
   have hdr:xs.drop i=x::xs.drop (i+1):=by
    obtain⟨h1,h2⟩:=List.getElem?_eq_some_iff.1 hx;rw[List.drop_eq_getElem_cons h1,h2]
   refine ZY 5 (Zv (Zx (i) ef (Q4) ef (by omega)) ?_);refine Zv (X4 (sv) (i*2) [_,_] Eo.h rfl Q4 (by first|rfl|exact Nat.add_assoc _ _ _|omega) rfl (Y8 (enc:=rnC) (sz:=2) (fun _=>rfl) hx)) (Zp (S.alloc Tryz.z175.h rfl ?_));intro b6;refine Zp (Zs ef ef (cs':=[_,_]) ef (ZY 2 ?_));refine Zd0 (Zra 0 10) (Zy ?_);refine Zw ef (Cp Tryz.Qj4.h rfl rfl (⟨by omega,by omega⟩)) ?_;refine Zw ef (Kx Eo.h rfl rfl) ?_;refine Zw ef (Nl (((max f x.1:Nat):Int)) rfl rfl (by omega)) (Zy ?_);refine Zw ef (Cp Tryz.Qj4.h rfl rfl (⟨by omega,by omega⟩)) ?_;refine Zw ef (Kx Eo.h rfl rfl) ?_;refine Zw ef (Qie (((min u x.2:Nat):Int)) rfl rfl (by omega)) (ZY 2 ?_);refine ZD (ZY 2 ?_);refine Zv (Cp Tryz.Qj4.h rfl rfl (⟨by omega,by omega⟩)) (Zv (Kx Eo.h rfl rfl) ?_);refine Zv (Cp Tryz.Qj4.h rfl rfl (⟨by omega,by omega⟩)) (Zv (Kx Eo.h rfl rfl) (ZY 2 ?_))
   refine Zj ef (fun h3=>?_) (fun h3=>?_)
   ·have h0:Xs xs=0:=by
     unfold Xs;rw[if_neg Uk,hup,hdr,Xr,if_pos (show x.2<x.1 by omega)]
    refine ZY 5 ?_;exact Zf ef Zq (⟨by rw[h0];rfl,rfl⟩)
   ·have Zfb:Xr xs (0,4294967295)=Xr (xs.drop (i+1)) (max f x.1,min u x.2):=by rw[hup,hdr,Xr,if_neg (show ¬x.2<x.1 by omega)]
    refine ZY 2 (Zv (Za ef ef) (ZY 2 ?_));exact ZX (q-1) (⟨i+1,max f x.1,min u x.2,by omega,by omega,by omega,by omega,Zfb,rfl,rfl⟩) (by omega)
  ·have hov:Xs xs=if u<f then 0 else u-f+1:=by
    unfold Xs;rw[if_neg Uk,hup,show i=xs.length by omega,List.drop_length];rfl
   refine ZY 8 ?_
   refine Zj ef (fun h4=>?_) (fun h4=>?_)
   ·have h0:Xs xs=0:=by rw[hov,if_pos (by omega)]
    refine ZY 5 ?_;exact Zf ef Zq (⟨by rw[h0];rfl,rfl⟩)
   ·have h0:(Xs xs:Int)=(u:Int)-(f:Int)+1:=by rw[hov,if_neg (by omega)];omega
    refine ZY 5 (Zv (Zm ef ef) ?_);refine Zv (Xw Tryz.it3.h (by rw[Tryz.underlying31];rfl) rfl (Y0 (by omega) (by omega))) (Zv (Za ef ef) (ZY 3 ?_));exact Zf ef Zq (⟨by rw[h0];rfl,rfl⟩)
theorem Qfa:∀ {l m:List Int},l.Perm m→l.Pairwise (·≤·)→m.Pairwise (· < ·)→l=m:=by
 intro l m h hl hm;exact h.eq_of_pairwise (fun a b _ _ h1 h2=>Int.le_antisymm h1 h2) hl (hm.imp fun h=>Int.le_of_lt h)
abbrev pts(ps:Nat→Nat)(js:List Bj):List Value:=js.map fun x=>pt (ps x.id)
theorem Qck(b:Nat)(st:Br)(ps:Nat→Nat):Spec Tryz.prog 50 [pt b] [BP b st ps] fun Γ v Θ=>∃av:SV,v=av.v∧av.n=st.js.length∧Θ=own av 86 1 (pts ps st.js)::BP b st ps::Γ:=by
 refine Spec.Us fun hok=>?_;refine Zbd Tryz.func50 rfl Tryz.ntmps50 fun w0 Γ=>Zsh ?_;have B8:=hok.Ev;refine S.Xx b st ps fun ub jb mb ov iv dv mv sb l hF=>?_;have hll:l.length≤65535:=by rw[hF.perm.length_eq,List.length_map];omega
 refine ZY 8 (ZY 7 (Zp (Zc1 Ze (Qzc jb) ?_)));rintro v Θ ⟨c,rfl,rfl⟩;refine Zp (Zc1 Ze (Qkf c jb l hll) ?_);rintro v Θ ⟨sv,xs,rfl,Km,D3,hxp,rfl⟩
 have Ta:xs=st.js.map fun x=>(x.id:Int):=by
  refine Qfa (D3.trans ?_) hxp ?_
  ·have:=hF.perm.map (·.1);rw[List.map_map]at this;exact this
  ·exact List.pairwise_map.2 (hok.Yz.imp fun h=>by omega)
 have Mu:xs.length=st.js.length:=by rw[Ta,List.length_map]
 have Mc:xs.map kv=st.js.map fun x=>Value.int .u32 (x.id:Int):=by rw[Ta,List.map_map];rfl
 rw[Mc];refine S.Yf sv fun Pz Gq Si=>?_;have hmx:maxLen≤9223372036854775807:=by unfold maxLen;omega
 refine S.Qh (show Ent _ (own SV.nil 86 1 (pts ps (st.js.take 0))::_) from Ent.Ye 86 1) (ZY 4 ?_);refine Zl (fun q ρ' Γ'=>∃(i:Nat) (av:SV),q=st.js.length-i∧i≤st.js.length∧av.n=i∧ρ'=[(0,pt b),(3,av.v),(11,sv.v),(12,.int .i64 (sv.n:Int)),(13,.int .i64 (i:Int))]∧Γ'=own av 86 1 (pts ps (st.js.take i))::own sv 31 1 (st.js.map fun x=>Value.int .u32 (x.id:Int))::bX b st ps ub jb mb ov iv dv mv sb l Γ) (m:=_) (⟨0,SV.nil,rfl,by omega,rfl,rfl,rfl⟩) ?_;rintro q ρ' Γ' ⟨i,av,hq,hi,hav,rfl,rfl⟩;refine ZY 5 ?_
 refine Zj ef (fun h1=>?_) (fun h1=>?_)
 ·refine S.Qp sv (by omega) fun sb' so Q4 _ _ _=>?_;obtain⟨x,hx⟩:=Yv (show i<st.js.length by omega);have Hd:st.js.take (i+1)=st.js.take i++[x]:=by rw[List.take_add_one,hx];rfl
  have Ub:Qg st.js x.id=some x:=X3 hok.Yz (List.mem_of_getElem? hx);refine ZY 5 (Zv (Zx (i) ef (Q4) ef (by omega)) ?_);refine Zv (Zo (sv) (i) ef (Q4) (by rw[List.getElem?_map,hx];rfl)) ?_;refine ZY 8 (Zy ?_);refine Zv (Qj (pt (ps x.id)) Tryz.underlying82 Tryz.underlying31 Tryz.Ud.h rfl rfl rfl (by rw[Wn hok.Yz hF.perm,Ub];rfl)) ?_;refine Zp (S.buildSlice (pvs:=[(_,_)]) [_] Tryz.underlying99 Tryz.Qpb.h rfl rfl ⟨⟨rfl,rfl⟩,trivial⟩ rfl rfl ?_);intro b24;refine Zp (S.Qu (s:=av) (1) ([pt (ps x.id)]) Tryz.underlying99 Tryz.Qpb.h rfl rfl rfl (Qy (b:=b24) rfl (by unfold maxLen;omega)) (by first|rfl|exact Ql _) (⟨by omega,by omega⟩) rfl ?_);intro av2 Zgr;rw[show pts ps (st.js.take i)++[pt (ps x.id)]=pts ps (st.js.take (i+1)) by rw[Hd];simp];refine ZY 3 (Zv (Za ef ef) (ZY 2 ?_));exact ZX (q-1) (⟨i+1,av2,by omega,by omega,by omega,rfl,rfl⟩) (by omega)
 ·rw[show i=st.js.length by omega,List.take_length];refine ZY 7 (S.Q6 b st ps ub jb mb ov iv dv mv sb l hF ?_);exact Zf ef Zq (⟨av,rfl,by omega,rfl⟩)
theorem wrap32(n:Nat):IntKind.u32.wrap ((n:Int)+1)=((u32 (n+1):Nat):Int):=by
 simp only[IntKind.wrap,IntKind.bits,IntKind.signed,Bool.false_and,Bool.false_eq_true,if_false];show ((n:Int)+1) % 4294967296=(((n+1) % 4294967296:Nat):Int);omega
theorem Qhc(m:Nat):Yx [.slice none 0 0] m=(List.replicate m ((SV.nil,[]):Bb)).map bbV:=by
 induction m with
 | zero=>rfl
 | succ m ih=>rw[List.replicate_succ,List.map_cons,←ih];rfl
theorem Qy2(m:Nat)(Γ:List Assn):Ent Γ (alls (List.replicate m ((SV.nil,[]):Bb)) bbB::Γ):=by
 induction m with
 | zero=>exact Ent.Jv _ _
 | succ m ih=>
  rw[List.replicate_succ];exact(ih.trans (show Ent _ (bbB (SV.nil,[])::_) from Ent.Ye 5 1)).trans (Ent.Gy bbB _ _ _)
theorem Ent.Qyq(v:SV)(m:Nat)(Γ:List Assn):Ent (own v 22 1 (Yx [.slice none 0 0] m)::Γ) (blobs v (List.replicate m [])::Γ):=by
 have h1:Ent (own v 22 1 (Yx [.slice none 0 0] m)::Γ) (own v 22 1 ((List.replicate m ((SV.nil,[]):Bb)).map bbV)::alls (List.replicate m ((SV.nil,[]):Bb)) bbB::Γ):=by
  rw[Qhc];exact(Qy2 m Γ).cons _
 refine h1.trans ((Ent.pack [_,_] Γ).trans (Ent.W9 Γ fun _ s=>⟨_,?_,s⟩));rw[List.map_replicate]
theorem Qvm(l:List Nat):l.map (fun _=>([]:List Int))=List.replicate l.length []:=List.map_const' ..
section
variable {n:Nat}{md:Bool}{w0:WM md}{ρ:Env}{Γ Δ:List Assn}{φ:Act→World→Prop}
theorem S.Qaf(q hb:Nat)(v:SV)(id ver Qb:Nat)(hv:List Nat)(bs:List (List Int))[p:Picks [blk q 131 #[.int .u32 (id:Int),.int .u32 (ver:Int),.int .i64 (Qb:Int),v.v,.map (some hb),.bool false],Qk hb .i64 (Xy hv),blobs v bs] Γ Δ](k:S n w0 ρ (Ue (some q) id (some ⟨ver,Qb,hv,false,bs⟩)::Δ) φ):S n w0 ρ Γ φ:=
 S.Qh (p.Qh.trans ((Ent.pack [_,_,_] Δ).trans (Ent.W9 Δ fun _ s=>⟨hb,v,s⟩))) k
theorem S.Qfd(q hb:Nat)(v:SV)(id ver Qb:Nat)(hv:List Nat)(bs:List (List Int))[p:Picks [blk q 131 #[.int .u32 (id:Int),.int .u32 (ver:Int),.int .i64 (Qb:Int),v.v,.map (some hb),.bool true],Qk hb .i64 (Xy hv)] Γ Δ](k:S n w0 ρ (Ue (some q) id (some ⟨ver,Qb,hv,true,bs⟩)::Δ) φ):S n w0 ρ Γ φ:=
 S.Qh (p.Qh.trans ((((show Ent Δ ((fun _=>True)::Δ) from fun h hs=>⟨HL.emp,h,HL.Ul _,HL.U6 _,HL.le.refl _,trivial,hs⟩).cons _).cons _).trans ((Ent.pack [_,_,fun _=>True] Δ).trans (Ent.W9 Δ fun _ s=>⟨hb,v,s⟩)))) k
theorem S.Qfe(q:Nat)(id:Nat)(s:Sv)[p:Pick (Ue (some q) id (some s)) Γ Δ](k:∀(hb:Nat) (v:SV),S n w0 ρ (blk q 131 #[.int .u32 (id:Int),.int .u32 (s.ver:Int),.int .i64 (s.Qb:Int),v.v,.map (some hb),.bool s.told]::Qk hb .i64 (Xy s.have_)::(if s.told then (fun _=>True) else blobs v s.bs)::Δ) φ):S n w0 ρ Γ φ:=by
 intro a w ha hs hx;obtain⟨h0,l0,h1,h2,d,l1,l2,⟨hb,v,q1⟩,s'⟩:=hs.Qh p.Qh;exact k hb v a w ha ⟨h0,l0,(Ent.unpack [_,_,_] Δ) _ ⟨h1,h2,d,l1,l2,q1,s'⟩⟩ hx
end
abbrev Wg(x:Bj):Bj:={x with ver:=u32 (x.ver+1),Yt:=some ⟨u32 (x.ver+1),x.work,[],false,x.at_.map fun _=>[]⟩}
theorem JOk.Wg{N:Nat}{x:Bj}(h:JOk N x):JOk N (Wg x):=⟨h.B6,h.Al,h.tier,h.k1,h.kn,h.w,h.cr,h.wk,h.Jy,h.at_,h.drop,h.lod,h.ran,h.ld,fun s hs=>(by cases hs;exact⟨List.length_map ..,h.wk⟩)⟩
theorem Wb{st:Br}{x:Bj}(h:x.work=x.Qb∨x.Yt.isSome∨x.Qi.isSome∨x.state≠2):Yy st x=st.set x:=by rw[Yy,if_pos h]
theorem We{st:Br}{x:Bj}(h:¬(x.work=x.Qb∨x.Yt.isSome∨x.Qi.isSome∨x.state≠2)):Yy st x=Br.set {st with Qa:=st.Qa++x.at_.map (Vu (Wg x))} (Wg x):=by rw[Yy,if_neg h]
theorem Qh1{st:Br}(h:Q7 st){x:Bj}(hx:JOk st.nodes x):Q7 (Yy st x):=by
 by_cases hc:x.work=x.Qb∨x.Yt.isSome∨x.Qi.isSome∨x.state≠2
 ·rw[Wb hc];exact h.set hx
 ·rw[We hc];exact(h.oset _).set (x:=BN.Wg x) hx.Wg
theorem Qae(st:Br)(x:Bj):(Yy st x).Qa.length≤st.Qa.length+x.at_.length∧(Yy st x).Qe=st.Qe∧(Yy st x).done=st.done∧(Yy st x).nodes=st.nodes:=by
 by_cases hc:x.work=x.Qb∨x.Yt.isSome∨x.Qi.isSome∨x.state≠2
 ·rw[Wb hc];exact⟨by show st.Qa.length≤_;omega,rfl,rfl,rfl⟩
 ·rw[We hc];exact⟨by show (st.Qa++_).length≤_;rw[List.length_append,List.length_map];omega,rfl,rfl,rfl⟩
theorem Qt4(st:Br){x y:Bj}(h:x.id=y.id):Yy (st.set x) y=Yy st y:=by
 by_cases hc:y.work=y.Qb∨y.Yt.isSome∨y.Qi.isSome∨y.state≠2
 ·rw[Wb hc,Wb hc];exact set_set st h
 ·rw[We hc,We hc];exact set_set {st with Qa:=st.Qa++y.at_.map (Vu (Wg y))} (x:=x) (y:=Wg y) h
theorem Qt5(b:Nat)(st:Br)(ps:Nat→Nat)(x:Bj)(hx:Qg st.js x.id=some x)(hl:st.Qa.length≤900000):Spec Tryz.prog 87 [pt b,pt (ps x.id)] [BP b st ps] fun Γ _ Θ=>Θ=BP b (Yy st x) ps::Γ:=by
 refine Spec.Us fun hok=>?_;have Y5:=hok.at_ hx;have hN:=hok.Bz;have hal:=Y5.len;refine Spec.U8 Tryz.func87 rfl Tryz.ntmps87 rfl ?_;intro w0 Γ;show S _ w0 [(0,pt b),(1,pt (ps x.id))] (BP b st ps::Γ) _;refine S.Wv b st ps x hx fun ub jb mb ov iv dv mv sb l i av lb db rb qb hF hi Q5 Ld hJ=>?_
 by_cases hw:x.work=x.Qb
 ·have hg:Yy st x=st.set x:=Wb (.inl hw);refine ZS (ZY 2 ?_);refine Zd ([blk (ps x.id) 90 (bjC x av lb db rb qb).toArray]) [] (Zra 0 11) (ZY 8 (ZY 3 (Zu 16 true ef ((decide_eq_true (by rw[hw]))) ?_)));refine Zr (Zra 11 21) (ZY 8 (ZY 8 (ZY 5 ?_)));refine ZD (ZY 2 (S.Qn b st ps ub jb mb ov iv dv mv sb l i x av lb db rb qb hi rfl (Q5 x rfl) (hF.set Y5) hJ ?_));exact Zf ef Zq (by rw[hg])
 have hwf:decide ((x.work:Int)=(x.Qb:Int))=false:=decide_eq_false (by omega);cases hs:x.Yt with
 | some s=>
  have hg:Yy st x=st.set x:=Wb (.inr (.inl (by rw[hs];rfl)));obtain⟨q,hq⟩:∃q,qb=some q:=by have:=hJ.s;rw[hs]at this;cases qb with|none=>cases this|some q=>exact⟨q,rfl⟩
  subst hq;refine ZS (ZY 2 ?_);refine Zd ([blk (ps x.id) 90 (bjC x av lb db rb (some q)).toArray]) [] (Zra 0 11) (ZY 8 (ZY 3 (Zu 16 false ef (hwf) ?_)));refine Zr (Zra 11 7) (ZY 7 ?_);refine Zr (Zra 18 14) (ZY 8 (ZY 6 ?_));refine ZD (ZY 2 (S.Qn b st ps ub jb mb ov iv dv mv sb l i x av lb db rb (some q) hi rfl (Q5 x rfl) (hF.set Y5) hJ ?_));exact Zf ef Zq (by rw[hg])
 | none=>
 have hqb:qb=none:=by have:=hJ.s;rw[hs]at this;cases qb with|none=>rfl|some q=>cases this
 subst hqb;cases hd:x.Qi with
 | some d=>
  have hg:Yy st x=st.set x:=Wb (.inr (.inr (.inl (by rw[hd];rfl))));obtain⟨q,hq⟩:∃q,db=some q:=by have:=hJ.d;rw[hd]at this;cases db with|none=>cases this|some q=>exact⟨q,rfl⟩
  subst hq;refine ZS (ZY 2 ?_);refine Zd ([blk (ps x.id) 90 (bjC x av lb (some q) rb none).toArray]) [] (Zra 0 11) (ZY 8 (ZY 3 (Zu 16 false ef (hwf) ?_)));refine Zr (Zra 11 7) (ZY 7 ?_);refine Zr (Zra 18 7) (ZY 4 ?_);refine Zwg ef ef ef ef (J7 Tryz.underlying81 rfl rfl) (ZY 2 ?_);refine Zr (Zra 25 7) (ZY 7 ?_);refine ZD (ZY 2 (S.Qn b st ps ub jb mb ov iv dv mv sb l i x av lb (some q) rb none hi rfl (Q5 x rfl) (hF.set Y5) hJ ?_));exact Zf ef Zq (by rw[hg])
 | none=>
  have hdb:db=none:=by have:=hJ.d;rw[hd]at this;cases db with|none=>rfl|some q=>cases this
  subst hdb;have han:=hJ.an;obtain⟨x1,Z4⟩:∃x1:Bj,x1=Wg x:=⟨_,rfl⟩;have Dy:JOk st.nodes x1:=by rw[Z4];exact Y5.Wg
  have hid:x1.id=x.id:=by rw[Z4]
  refine ZS (ZY 2 ?_);refine Zd ([blk (ps x.id) 90 (bjC x av lb none rb none).toArray]) [] (Zra 0 11) (ZY 8 (ZY 3 (Zu 16 false ef (hwf) ?_)));refine Zr (Zra 11 7) (ZY 7 ?_);refine Zr (Zra 18 7) (ZY 4 ?_);refine Zwg ef ef ef ef (J7 Tryz.underlying81 rfl rfl) (ZY 2 ?_);refine Zr (Zra 25 7) (ZY 7 ?_);refine ZD ?_
  refine Zj ef (fun h1=>?_) (fun h1=>?_)
  ·have hg:Yy st x=st.set x:=Wb (.inr (.inr (.inr (by omega))));refine Zy (S.Qn b st ps ub jb mb ov iv dv mv sb l i x av lb none rb none hi rfl (Q5 x rfl) (hF.set Y5) hJ ?_);exact Zf ef Zq (by rw[hg])
  ·have hg:Yy st x=Br.set {st with Qa:=st.Qa++x.at_.map (Vu x1)} x1:=by
    rw[Z4];refine We fun h=>?_
    rcases h with h|h|h|h
    ·exact hw h
    ·rw[hs]at h;cases h
    ·rw[hd]at h;cases h
    ·exact h (by omega)
   refine ZY 7 (Zv (Quy rfl rfl) ?_);rw[wrap32];refine ZY 5 ?_;refine Zd ([blk (ps x.id) 90 (bjC {x with ver:=u32 (x.ver+1)} av lb none rb none).toArray]) [26] (Zra 0 19) (ZY 8 (ZY 8 (ZY 3 ?_)))
   refine Z2 (i:=19) (j:=21) ef ef ef ?_ ?_
   ·refine(S.makeSlice (av.n) (av.n) Tryz.underlying58 Tryz.Q4u.h rfl rfl rfl rfl rfl (by omega) (by omega) rfl ?_);intro bv hbv;refine Zk [20] ?_;refine Zw ef (Q3 (pvs:=[(_,_),(_,_),(_,_),(_,_)]) [_,_,_,_] Tryz.z60.h Tryz.p60.h ⟨⟨rfl,rfl⟩,⟨rfl,rfl⟩,⟨rfl,rfl⟩,⟨rfl,rfl⟩,trivial⟩ rfl) ?_;refine Z1 (i:=21) ef ef ?_;refine(S.makeMap .i64 rfl ?_);intro b66;refine Zk [22] ?_;refine Zw ef (Q3 (pvs:=[(_,_),(_,_)]) [_,_,_,_,_,_] Tryz.z131.h Tryz.Zar.h ⟨⟨rfl,rfl⟩,⟨rfl,rfl⟩,trivial⟩ rfl) ?_;refine Z1 (i:=23) ef ef ?_;refine(S.box (cs:=[_,_,_,_,_,_]) rfl rfl rfl ?_);intro b68;refine S.conv (Qk b66 .i64 []) (show Ent _ (Qk b66 .i64 (Xy [])::_) from Ent.refl _) ?_;refine Zk [24,25] (ZY 2 ?_);refine Z1 (i:=26) ef ef ?_;refine(S.store (cs':=[_,_,_,_,_,_,_,_,_,_,_,_,_,_,_,_,_]) Eo.h rfl rfl rfl rfl rfl ?_);refine ZL ([]) [] ?_;refine ZD (ZY 2 (S.Yw (ps x.id) (bjC {x with ver:=u32 (x.ver+1)} av lb none rb (some b68)).toArray rfl (ZY 8 ?_)));refine Zl (fun k ρ' Γ'=>∃(e:Nat) (os:List Od) (ov2:SV),k=x.at_.length-e∧e≤x.at_.length∧os=st.Qa++(x.at_.take e).map (Vu x1)∧ov2.n=os.length∧ρ'=[(0,pt b),(1,pt (ps x.id)),(74,av.v),(75,.int .i64 (av.n:Int)),(76,.int .i64 (e:Int))] ∧   Γ'=blk (ps x.id) 90 (bjC {x with ver:=u32 (x.ver+1)} av lb none rb (some b68)).toArray::blk b68 131 #[.int .u32 (x.id:Int),.int .u32 (u32 (x.ver+1):Nat),.int .i64 (x.work:Int),bv.v,.map (some b66),.bool false]::Qk b66 .i64 (Xy [])::own bv 22 1 (Yx [.slice none 0 0] av.n)::own av 3 1 (nds x.at_)::Xz lb x.Y4::Xz none x.Qi::Dd rb x.ran::blk b 84 (bC st ub jb mb ov2 iv dv mv sb).toArray::Qk ub .i64 (Xy st.up)::Qk jb .u32 l::jT ps st.js i::jD ps st.js i::MI mb st.m::own ov2 97 14 (os.flatMap odC)::imgs iv st.Qe::own dv 31 1 (Q9 st.done)::own mv 31 1 (Q9 st.members)::Xz sb st.stops::Γ) (m:=_) (⟨0,st.Qa,ov,rfl,by omega,by simp,hF.on,rfl,rfl⟩) ?_;rintro k ρ' Γ' ⟨e,os,ov2,hk,he,hos,Wf,rfl,rfl⟩;have hol:os.length≤900016:=by rw[hos,List.length_append,List.length_map,List.length_take];omega
    refine ZY 5 ?_
    refine Zj ef (fun h2=>?_) (fun h2=>?_)
    ·refine S.Qp av (by omega) fun ab ao haa _ _ _=>?_;obtain⟨y,hy⟩:=Yv (show e<x.at_.length by omega);have Hd:x.at_.take (e+1)=x.at_.take e++[y]:=by rw[List.take_add_one,hy];rfl
     have Ei:os++[((y,{kind:=8,Qm:=x.id,ver:=u32 (x.ver+1),Qb:=x.work}):Od)]=st.Qa++(x.at_.take (e+1)).map (Vu x1):=by rw[hos,Hd,List.map_append,List.append_assoc,Z4];rfl
     refine ZY 5 (Zv (Zx (e) ef (haa) ef (by omega)) ?_);refine Zv (Zo (av) (e) ef (haa) (by rw[List.getElem?_map,hy];rfl)) ?_;refine ZY 2 ?_;refine Zd ([blk (ps x.id) 90 (bjC {x with ver:=u32 (x.ver+1)} av lb none rb (some b68)).toArray]) [] (Zra 0 16) (ZY 8 (ZY 7 ?_));refine Zw ef (Q3 (pvs:=[(_,_),(_,_),(_,_),(_,_)]) [_,_,_,_,_,_,_,_,_,_,_,_,_] Tryz.z72.h Tryz.p72.h ⟨⟨rfl,rfl⟩,⟨rfl,rfl⟩,⟨rfl,rfl⟩,⟨rfl,rfl⟩,trivial⟩ rfl) ?_;refine Z1 (i:=16) ef ef ?_;refine  (Zc1 Ze (Fg b st ub jb mb ov2 iv dv mv sb y {kind:=8,Qm:=x.id,ver:=u32 (x.ver+1),Qb:=x.work} os Wf (by omega)) ?_);rintro v Θ ⟨ov3,D5,rfl⟩;refine Zk [] ?_;refine ZD (Zy (Zv (Za ef ef) (ZY 2 ?_)));exact ZX (k-1) (⟨e+1,os++[((y,{kind:=8,Qm:=x.id,ver:=u32 (x.ver+1),Qb:=x.work}):Od)],ov3,by omega,by omega,Ei,D5,rfl,rfl⟩) (by omega)
    ·rw[show e=x.at_.length by omega,List.take_length]at hos;refine Zy (S.Yw (ps x.id) (bjC x1 av lb none rb (some b68)).toArray (by rw[Z4]) (S.conv (own bv 22 1 (Yx [.slice none 0 0] av.n)) (Ent.Qyq bv av.n _) ?_));rw[show List.replicate av.n ([]:List Int)=x.at_.map fun _=>[] by rw[Qvm,han]];refine S.Qaf b68 b66 bv x.id (u32 (x.ver+1)) x.work [] (x.at_.map fun _=>[]) ?_;refine S.sub (jX (ps x.id) x1 av lb none rb (some b68) (bR b {st with Qa:=os} ps ub jb mb ov2 iv dv mv sb l i Γ)) (e:=by subst Z4;infer_instance) ?_;refine S.Qn b {st with Qa:=os} ps ub jb mb ov2 iv dv mv sb l i x1 av lb none rb (some b68) hi hid (Q5 x1 hid) (BF.set (st:={st with Qa:=os}) ⟨hok.oset os,hF.perm,Wf,hF.im,hF.dn,hF.mn,hF.sn⟩ Dy) ⟨by rw[Z4];exact hJ.an,by rw[Z4];exact hJ.l,by rw[Z4];exact hJ.d,by rw[Z4];exact hJ.r,by rw[Z4];rfl⟩ ?_;exact Zfn ef Zq (by rw[hg,←hos])
   ·refine(S.makeMap .i64 rfl ?_);intro b66;refine Zk [] ?_;refine Z1 (i:=19) ef ef ?_;refine(S.makeSlice (av.n) (av.n) Tryz.underlying58 Tryz.Q4u.h rfl rfl rfl rfl rfl (by omega) (by omega) rfl ?_);intro bv hbv;refine Zk [20,22] ?_;refine Zw ef (Q3 (pvs:=[(_,_),(_,_),(_,_),(_,_)]) [_,_,_,_] Tryz.z60.h Tryz.p60.h ⟨⟨rfl,rfl⟩,⟨rfl,rfl⟩,⟨rfl,rfl⟩,⟨rfl,rfl⟩,trivial⟩ rfl) ?_;refine Zw ef (Q3 (pvs:=[(_,_),(_,_)]) [_,_,_,_,_,_] Tryz.z131.h Tryz.Zar.h ⟨⟨rfl,rfl⟩,⟨rfl,rfl⟩,trivial⟩ rfl) ?_;refine Z1 (i:=23) ef ef ?_;refine(S.box (cs:=[_,_,_,_,_,_]) rfl rfl rfl ?_);intro b68;refine S.conv (Qk b66 .i64 []) (show Ent _ (Qk b66 .i64 (Xy [])::_) from Ent.refl _) ?_;refine Zk [24,25] (ZY 2 ?_);refine Z1 (i:=26) ef ef ?_;refine(S.store (cs':=[_,_,_,_,_,_,_,_,_,_,_,_,_,_,_,_,_]) Eo.h rfl rfl rfl rfl rfl ?_);refine ZL ([]) [] ?_;refine ZD (ZY 2 (S.Yw (ps x.id) (bjC {x with ver:=u32 (x.ver+1)} av lb none rb (some b68)).toArray rfl (ZY 8 ?_)));refine Zl (fun k ρ' Γ'=>∃(e:Nat) (os:List Od) (ov2:SV),k=x.at_.length-e∧e≤x.at_.length∧os=st.Qa++(x.at_.take e).map (Vu x1)∧ov2.n=os.length∧ρ'=[(0,pt b),(1,pt (ps x.id)),(74,av.v),(75,.int .i64 (av.n:Int)),(76,.int .i64 (e:Int))] ∧   Γ'=blk (ps x.id) 90 (bjC {x with ver:=u32 (x.ver+1)} av lb none rb (some b68)).toArray::blk b68 131 #[.int .u32 (x.id:Int),.int .u32 (u32 (x.ver+1):Nat),.int .i64 (x.work:Int),bv.v,.map (some b66),.bool false]::Qk b66 .i64 (Xy [])::own bv 22 1 (Yx [.slice none 0 0] av.n)::own av 3 1 (nds x.at_)::Xz lb x.Y4::Xz none x.Qi::Dd rb x.ran::blk b 84 (bC st ub jb mb ov2 iv dv mv sb).toArray::Qk ub .i64 (Xy st.up)::Qk jb .u32 l::jT ps st.js i::jD ps st.js i::MI mb st.m::own ov2 97 14 (os.flatMap odC)::imgs iv st.Qe::own dv 31 1 (Q9 st.done)::own mv 31 1 (Q9 st.members)::Xz sb st.stops::Γ) (m:=_) (⟨0,st.Qa,ov,rfl,by omega,by simp,hF.on,rfl,rfl⟩) ?_;rintro k ρ' Γ' ⟨e,os,ov2,hk,he,hos,Wf,rfl,rfl⟩;have hol:os.length≤900016:=by rw[hos,List.length_append,List.length_map,List.length_take];omega
    refine ZY 5 ?_
    refine Zj ef (fun h2=>?_) (fun h2=>?_)
    ·refine S.Qp av (by omega) fun ab ao haa _ _ _=>?_;obtain⟨y,hy⟩:=Yv (show e<x.at_.length by omega);have Hd:x.at_.take (e+1)=x.at_.take e++[y]:=by rw[List.take_add_one,hy];rfl
     have Ei:os++[((y,{kind:=8,Qm:=x.id,ver:=u32 (x.ver+1),Qb:=x.work}):Od)]=st.Qa++(x.at_.take (e+1)).map (Vu x1):=by rw[hos,Hd,List.map_append,List.append_assoc,Z4];rfl
     refine ZY 5 (Zv (Zx (e) ef (haa) ef (by omega)) ?_);refine Zv (Zo (av) (e) ef (haa) (by rw[List.getElem?_map,hy];rfl)) ?_;refine ZY 2 ?_;refine Zd ([blk (ps x.id) 90 (bjC {x with ver:=u32 (x.ver+1)} av lb none rb (some b68)).toArray]) [] (Zra 0 16) (ZY 8 (ZY 7 ?_));refine Zw ef (Q3 (pvs:=[(_,_),(_,_),(_,_),(_,_)]) [_,_,_,_,_,_,_,_,_,_,_,_,_] Tryz.z72.h Tryz.p72.h ⟨⟨rfl,rfl⟩,⟨rfl,rfl⟩,⟨rfl,rfl⟩,⟨rfl,rfl⟩,trivial⟩ rfl) ?_;refine Z1 (i:=16) ef ef ?_;refine  (Zc1 Ze (Fg b st ub jb mb ov2 iv dv mv sb y {kind:=8,Qm:=x.id,ver:=u32 (x.ver+1),Qb:=x.work} os Wf (by omega)) ?_);rintro v Θ ⟨ov3,D5,rfl⟩;refine Zk [] ?_;refine ZD (Zy (Zv (Za ef ef) (ZY 2 ?_)));exact ZX (k-1) (⟨e+1,os++[((y,{kind:=8,Qm:=x.id,ver:=u32 (x.ver+1),Qb:=x.work}):Od)],ov3,by omega,by omega,Ei,D5,rfl,rfl⟩) (by omega)
    ·rw[show e=x.at_.length by omega,List.take_length]at hos;refine Zy (S.Yw (ps x.id) (bjC x1 av lb none rb (some b68)).toArray (by rw[Z4]) (S.conv (own bv 22 1 (Yx [.slice none 0 0] av.n)) (Ent.Qyq bv av.n _) ?_));rw[show List.replicate av.n ([]:List Int)=x.at_.map fun _=>[] by rw[Qvm,han]];refine S.Qaf b68 b66 bv x.id (u32 (x.ver+1)) x.work [] (x.at_.map fun _=>[]) ?_;refine S.sub (jX (ps x.id) x1 av lb none rb (some b68) (bR b {st with Qa:=os} ps ub jb mb ov2 iv dv mv sb l i Γ)) (e:=by subst Z4;infer_instance) ?_;refine S.Qn b {st with Qa:=os} ps ub jb mb ov2 iv dv mv sb l i x1 av lb none rb (some b68) hi hid (Q5 x1 hid) (BF.set (st:={st with Qa:=os}) ⟨hok.oset os,hF.perm,Wf,hF.im,hF.dn,hF.mn,hF.sn⟩ Dy) ⟨by rw[Z4];exact hJ.an,by rw[Z4];exact hJ.l,by rw[Z4];exact hJ.d,by rw[Z4];exact hJ.r,by rw[Z4];rfl⟩ ?_;exact Zfn ef Zq (by rw[hg,←hos])
abbrev Gj(x:Bj):Bj:={x with ran:=none}
abbrev Kb(x:Bj)(r:List Rn):Bj:={x with ran:=none,work:=min (x.work+Xs (r.map (·.2))) x.w}
theorem JOk.Gj{N:Nat}{x:Bj}(h:JOk N x):JOk N (Gj x):=⟨h.B6,h.Al,h.tier,h.k1,h.kn,h.w,h.cr,h.wk,h.Jy,h.at_,h.drop,h.lod,fun r hr=>(by cases hr),h.ld,h.svl⟩
theorem JOk.Kb{N:Nat}{x:Bj}(h:JOk N x)(r:List Rn):JOk N (Kb x r):=⟨h.B6,h.Al,h.tier,h.k1,h.kn,h.w,h.cr,Nat.min_le_right ..,h.Jy,h.at_,h.drop,h.lod,fun r hr=>(by cases hr),h.ld,h.svl⟩
theorem Qsd{st:Br}(h:Q7 st){x:Bj}(hx:JOk st.nodes x):Q7 (Zz st x):=by
 unfold Zz
 split
 ·exact h.set hx
 ·split
  ·exact h.set (x:=BN.Gj x) hx.Gj
  ·exact Qh1 h (x:=BN.Kb x _) (hx.Kb _)
theorem Qjy(st:Br)(x:Bj):(Zz st x).Qa.length≤st.Qa.length+x.at_.length∧(Zz st x).Qe=st.Qe∧(Zz st x).done=st.done∧(Zz st x).nodes=st.nodes:=by
 unfold Zz
 split
 ·exact⟨by show st.Qa.length≤_;omega,rfl,rfl,rfl⟩
 ·split
  ·exact⟨by show st.Qa.length≤_;omega,rfl,rfl,rfl⟩
  ·exact Qae st (Kb x _)
theorem Ent.Q4l{q:Nat}{s:Option (List Rn)}{r:List Rn}(h:s=some r)(Γ:List Assn):Ent (Dd (some q) s::Γ) (Qk q .i64 (Gk r)::Γ):=by rw[h];exact Ent.refl _
theorem Ent.Zav{q:Nat}{s:Option (List Rn)}{r:List Rn}(h:s=some r)(Γ:List Assn):Ent (Qk q .i64 (Gk r)::Γ) (Dd (some q) s::Γ):=by rw[h];exact Ent.refl _
theorem Qgu(b:Nat)(st:Br)(ps:Nat→Nat)(x:Bj)(hx:Qg st.js x.id=some x)(hl:st.Qa.length≤900000):Spec Tryz.prog 95 [pt b,pt (ps x.id)] [BP b st ps] fun Γ _ Θ=>Θ=BP b (Zz st x) ps::Γ:=by
 refine Spec.Us fun hok=>?_;have Y5:=hok.at_ hx;have hN:=hok.Bz;have hal:=Y5.len;refine Spec.U8 Tryz.func95 rfl Tryz.ntmps95 rfl ?_;intro w0 Γ;show S _ w0 [(0,pt b),(1,pt (ps x.id))] (BP b st ps::Γ) _;refine S.Wv b st ps x hx fun ub jb mb ov iv dv mv sb l i av lb db rb qb hF hi Q5 Ld hJ=>?_;cases hr:x.ran with
 | none=>
  have hg:Zz st x=st.set x:=by rw[Zz,hr]
  have hrb:rb=none:=by have:=hJ.r;rw[hr]at this;cases rb with|none=>rfl|some q=>cases this
  subst hrb;refine ZS (ZY 8 (ZY 8 (Zy ?_)));refine Zd ([blk (ps x.id) 90 (bjC x av lb db none qb).toArray]) [] [0,1,2] (Zy ?_);refine Zw ef (Ky Tryz.underlying88 rfl rfl) (Zy ?_);refine Zr (Zra 3 16) (ZY 8 (ZY 8 ?_));refine ZD (ZY 2 (S.Qn b st ps ub jb mb ov iv dv mv sb l i x av lb db none qb hi rfl (Q5 x rfl) (hF.set Y5) hJ ?_));exact Zf ef Zq (by rw[hg])
 | some r=>
 obtain⟨q,hq⟩:∃q,rb=some q:=by have:=hJ.r;rw[hr]at this;cases rb with|none=>cases this|some q=>exact⟨q,rfl⟩
 subst hq;cases hd:x.Qi with
 | some d=>
  have hg:Zz st x=st.set (Gj x):=by rw[Zz,hr];exact if_pos (.inl (by rw[hd];rfl))
  obtain⟨qd,hqd⟩:∃q,db=some q:=by have:=hJ.d;rw[hd]at this;cases db with|none=>cases this|some q=>exact⟨q,rfl⟩
  subst hqd;refine ZS (ZY 8 (ZY 8 (Zy ?_)));refine Zd ([blk (ps x.id) 90 (bjC (Gj x) av lb (some qd) none qb).toArray]) [] [0,1,2] (Zy ?_);refine Zw ef (Ky Tryz.underlying88 rfl rfl) (Zy ?_);refine Zr (Zra 3 7) (ZY 4 ?_);refine Zwg ef ef ef ef (J7 Tryz.underlying81 rfl rfl) (ZY 2 ?_);refine Zr (Zra 10 9) (ZY 8 (Zy ?_));refine ZD (ZY 2 (S.Qh (Nu _) ?_));refine S.Qn b st ps ub jb mb ov iv dv mv sb l i (Gj x) av lb (some qd) none qb hi rfl (Q5 (Gj x) rfl) (hF.set Y5.Gj) ⟨hJ.an,hJ.l,hJ.d,rfl,hJ.s⟩ ?_;exact Zf ef Zq (by rw[hg])
 | none=>
  have hdb:db=none:=by have:=hJ.d;rw[hd]at this;cases db with|none=>rfl|some q=>cases this
  subst hdb;have han:=hJ.an;have hrl:(Gk r).length=r.length:=List.length_map ..;refine S.conv (Dd (some q) x.ran) (Ent.Q4l hr _) ?_;obtain⟨x1,Z4⟩:∃x1:Bj,x1=Kb x r:=⟨_,rfl⟩;have Dy:JOk st.nodes x1:=by rw[Z4];exact Y5.Kb r
  have hid:x1.id=x.id:=by rw[Z4]
  have hw1:x1.work=min (x.work+Xs (r.map (·.2))) x.w:=by rw[Z4]
  have hx2:Qg (st.set x1).js x1.id=some x1:=H5 st (by rw[hid];exact hx)
  have Lb:Spec Tryz.prog 87 [pt b,pt (ps x.id)] [BP b (st.set x1) ps] fun Γ _ Θ=>Θ=BP b (Yy (st.set x1) x1) ps::Γ:=by
   rw[←hid];exact Qt5 b _ ps x1 hx2 hl
  refine ZS (ZY 8 (ZY 8 (Zy ?_)));refine Zd ([blk (ps x.id) 90 (bjC (Gj x) av lb none none qb).toArray,Qk q .i64 (Gk r)]) [] [0,1,2] (Zy ?_);refine Zw ef (Ky Tryz.underlying88 rfl rfl) (Zy ?_);refine Zr (Zra 3 7) (ZY 4 ?_);refine Zwg ef ef ef ef (J7 Tryz.underlying81 rfl rfl) (ZY 2 ?_);refine Zr (Zra 10 9) (ZY 8 (Zy ?_));refine ZD ?_
  refine Zj ef (fun h1=>?_) (fun h1=>?_)
  ·have hg:Zz st x=st.set (Gj x):=by rw[Zz,hr];exact if_pos (.inr (by omega))
   refine Zy (S.Qh (Nu _) ?_);refine S.Qn b st ps ub jb mb ov iv dv mv sb l i (Gj x) av lb none none qb hi rfl (Q5 (Gj x) rfl) (hF.set Y5.Gj) ⟨hJ.an,hJ.l,hJ.d,rfl,hJ.s⟩ ?_;exact Zf ef Zq (by rw[hg])
  ·have hg:Zz st x=Yy st x1:=by
    rw[Z4,Zz,hr]
    exact if_neg (fun h=>by
     rcases h with h|h
     ·rw[hd]at h;cases h
     ·exact h (by omega))
   refine ZY 4 (Zp (Zc1 Ze (Qy7 q) ?_));rintro v Θ ⟨c,rfl,rfl⟩;refine Zp (Zc1 Ze (Qng c q r (by omega)) ?_);rintro v Θ ⟨sv,xs,rfl,Km,D3,rfl⟩
   have hxb:∀y∈xs,y.1≤4294967295∧y.2≤4294967295:=fun y hy=>by
    obtain⟨z,hz,e⟩:=List.mem_map.1 ((D3.mem_iff).1 hy);rw[←e];exact Y5.ran r hr z hz
   have hov:=Qcu D3;have hole:=Qik xs;have hwb:=Y5.wk;have hww:=Y5.w;refine Zp (Zcp Ze (Qqw sv xs Km hxb) (ZY 3 ?_));refine Zd ([blk (ps x.id) 90 (bjC (Gj x) av lb none none qb).toArray]) [15] [0,1,2,3,4,5,7,8,9,10,11] (ZY 8 (ZY 3 ?_));refine Z1 (i:=6) ef ef ?_;refine  (Zcp Ze (Q8w x.work (Xs xs) (by omega) (by omega)) ?_);refine Zk [] ?_;refine Z1 (i:=12) ef ef ?_;refine  (Zc1 Ze (Q7b (x.work+Xs xs) x.w (by omega) (by omega)) ?_);rintro v Θ ⟨rfl,hG⟩;rw[hG,hov,←hw1];refine Zk [13,14] (ZY 2 ?_);refine Z1 (i:=15) ef ef ?_;refine(S.store (cs':=[_,_,_,_,_,_,_,_,_,_,_,_,_,_,_,_,_]) Eo.h rfl rfl rfl rfl rfl ?_);refine ZL ([]) [] ?_;refine ZD (ZY 3 (S.Yw (ps x.id) (bjC x1 av lb none none qb).toArray (by rw[Z4]) (S.Qh (Nu _) ?_)));refine S.sub (jX (ps x.id) x1 av lb none none qb (bR b st ps ub jb mb ov iv dv mv sb l i Γ)) (e:=by subst Z4;infer_instance) ?_;refine S.Qn b st ps ub jb mb ov iv dv mv sb l i x1 av lb none none qb hi hid (Q5 x1 hid) (hF.set Dy) ⟨by rw[Z4];exact hJ.an,by rw[Z4];exact hJ.l,by rw[Z4];exact hJ.d,by rw[Z4];rfl,by rw[Z4];exact hJ.s⟩ (Zp (Zc1 Ze (Lb) ?_));rintro v Θ rfl;rw[Qt4 st (x:=x1) (y:=x1) rfl];refine Zy ?_;exact Zfn ef Zq (by rw[hg])
theorem Hz(st:Br){x:Bj}{id:Nat}(h:id≠x.id):Qg (st.set x).js id=Qg st.js id:=by
 show Qg (Yo st.js x) id=_;rw[El,if_neg h]
theorem Qub(js:List Bj){id k:Nat}(h:id≠k):Qg (rmJ js k) id=Qg js id:=by
 unfold Qg rmJ;induction js with
 | nil=>rfl
 | cons y js ih=>
  by_cases hy:y.id=k
  ·have h1:decide (y.id≠k)=false:=by simp[hy]
   have h2:decide (y.id=id)=false:=decide_eq_false (fun e=>h (e.symm.trans hy));simp only[List.filter_cons,List.find?_cons,h1,h2];exact ih
  ·have h1:decide (y.id≠k)=true:=by simp[hy]
   simp only[List.filter_cons,List.find?_cons,h1,if_true];rw[ih]
theorem Qbz(st:Br){x:Bj}{id:Nat}(h:id≠x.id):Qg (Z6 st x).js id=Qg st.js id:=by
 unfold Z6
 split
 ·split
  ·exact Hz {st with m:=(Z0 st.m x.id).2} (x:=anew x) h
  ·exact Qub st.js h
 ·exact Hz st h
theorem Qju(st:Br){x:Bj}(a:Bool){id:Nat}(h:id≠x.id):Qg (Y9 st x a).js id=Qg st.js id:=by
 cases hd:x.Qi with
 | some d=>rw[X5 hd];exact Qbz st (x:=Vf x a d) h
 | none=>rw[Xm hd];exact Qbz {st with Qa:=st.Qa++(V7 st x).map (Xp x.id)} (x:=Vf x a (V7 st x)) h
theorem Qh0(st:Br){x:Bj}{id:Nat}(h:id≠x.id):Qg (Yy st x).js id=Qg st.js id:=by
 by_cases hc:x.work=x.Qb∨x.Yt.isSome∨x.Qi.isSome∨x.state≠2
 ·rw[Wb hc];exact Hz st h
 ·rw[We hc];exact Hz {st with Qa:=st.Qa++x.at_.map (Vu (Wg x))} (x:=Wg x) h
theorem Qsc(st:Br){x:Bj}{id:Nat}(h:id≠x.id):Qg (Zz st x).js id=Qg st.js id:=by
 unfold Zz
 split
 ·exact Hz st h
 ·split
  ·exact Hz st (x:=Gj x) h
  ·exact Qh0 st (x:=Kb x _) h
structure G0(f:Br→Bj→Br):Prop where
 ok:∀st x,Q7 st→Qg st.js x.id=some x→Q7 (f st x)
 oth:∀st x id,id≠x.id→Qg (f st x).js id=Qg st.js id
 ord:∀st x,Q7 st→Qg st.js x.id=some x→(f st x).Qa.length≤st.Qa.length+16
theorem P3(f:Br→Bj→Br)(st:Br)(l:List Nat)(id:Nat):each f st (l++[id])=match Qg (each f st l).js id with
  | none=>each f st l
  | some x=>f (each f st l) x:=by
 unfold each;rw[List.foldl_append];rfl
theorem Qwo{st:Br}{e:Nat}{x:Bj}(hx:st.js[e]?=some x):st.ids.take (e+1)=st.ids.take e++[x.id]:=by
 rw[List.take_add_one,List.getElem?_map,hx];rfl
structure Qg8(f:Br→Bj→Br)(st:Br)(e:Nat):Prop where
 ok:Q7 (each f st (st.ids.take e))
 ord:(each f st (st.ids.take e)).Qa.length≤st.Qa.length+16*e
 here:∀i x,e≤i→st.js[i]?=some x→Qg (each f st (st.ids.take e)).js x.id=some x
theorem En{f:Br→Bj→Br}{st:Br}{e:Nat}(h:Qg8 f st e){x:Bj}(hx:st.js[e]?=some x):each f st (st.ids.take (e+1))=f (each f st (st.ids.take e)) x:=by
 rw[Qwo hx,P3,h.here e x (Nat.le_refl e) hx]
theorem Ep{f:Br→Bj→Br}(hE:G0 f){st:Br}(h:Q7 st):∀e,e≤st.js.length→Qg8 f st e:=by
 intro e;induction e with
 | zero=>exact fun _=>⟨h,Nat.le_refl _,fun i x _ hx=>X3 h.Yz (List.mem_of_getElem? hx)⟩
 | succ e ih=>
  intro he;have hi:=ih (by omega);obtain⟨x,hx⟩:=Yv (show e<st.js.length by omega);have hh:=hi.here e x (Nat.le_refl e) hx;have hs:=En hi hx
  refine⟨by rw[hs];exact hE.ok _ x hi.ok hh,?_,fun i y hiy hy=>?_⟩
  ·rw[hs];have:=hE.ord _ x hi.ok hh;have:=hi.ord;omega
  ·rw[hs,hE.oth _ x _ ?_]
   ·exact hi.here i y (by omega) hy
   ·obtain⟨h1,h2⟩:=List.getElem?_eq_some_iff.1 hx;obtain⟨h3,h4⟩:=List.getElem?_eq_some_iff.1 hy;have:=List.pairwise_iff_getElem.1 h.Yz e i h1 h3 (by omega);rw[h2,h4]at this;omega
theorem Er{f:Br→Bj→Br}{st:Br}{e:Nat}(he:e=st.js.length):each f st (st.ids.take e)=each f st st.ids:=by rw[he,show st.js.length=st.ids.length from (List.length_map ..).symm,List.take_length]
theorem Li{f:Br→Bj→Br}(hE:G0 f){st:Br}(h:Q7 st):Q7 (each f st st.ids):=by
 rw[←Er rfl];exact(Ep hE h _ (Nat.le_refl _)).ok
theorem Qb8{f:Br→Bj→Br}(hE:G0 f){st:Br}(h:Q7 st):(each f st st.ids).Qa.length≤st.Qa.length+16*st.js.length:=by
 rw[←Er rfl];exact(Ep hE h _ (Nat.le_refl _)).ord
theorem Qd5{st:Br}(h:Q7 st){x:Bj}(hx:Qg st.js x.id=some x):x.at_.length≤16:=Nat.le_trans (h.at_ hx).len h.Bz
theorem Qx5:G0 Zz:=⟨fun _ _ h hx=>Qsd h (h.at_ hx),fun st _ _ h=>Qsc st h,fun st x h hx=>by
 have h1:=(Qjy st x).1;have h2:=Qd5 h hx;omega⟩
theorem Qh2:G0 Yy:=⟨fun _ _ h hx=>Qh1 h (h.at_ hx),fun st _ _ h=>Qh0 st h,fun st x h hx=>by
 have h1:=(Qae st x).1;have h2:=Qd5 h hx;omega⟩
theorem Q0j(b:Nat)(st:Br)(ps:Nat→Nat)(hl:st.Qa.length≤880000):Spec Tryz.prog 46 [pt b] [BP b st ps] fun Γ _ Θ=>Θ=BP b (each Yy st st.ids) ps::Γ:=by
 refine Spec.Us fun hok=>?_;have B8:=hok.Ev;refine Zbd Tryz.func46 rfl Tryz.ntmps46 fun w0 Γ=>Zsh (ZY 3 (Zp (Zc1 Ze (Qck b st ps) ?_)));rintro v Θ ⟨jv,rfl,hjv,rfl⟩;refine S.Yf jv fun Pz Gq Si=>?_;have hmx:maxLen≤9223372036854775807:=by unfold maxLen;omega
 refine ZY 4 ?_;refine Zl (fun q ρ' Γ'=>∃(e:Nat) (t:Br),q=st.js.length-e∧e≤st.js.length∧t=each Yy st (st.ids.take e)∧ρ'=[(0,pt b),(5,jv.v),(6,.int .i64 (jv.n:Int)),(7,.int .i64 (e:Int))]∧Γ'=own jv 86 1 (pts ps st.js)::BP b t ps::Γ) (m:=_) (⟨0,st,rfl,by omega,rfl,rfl,rfl⟩) ?_;rintro q ρ' Γ' ⟨e,t,hq,he,rfl,rfl,rfl⟩;have hI:=Ep Qh2 hok e he;have hIo:=hI.ord;refine ZY 5 ?_
 refine Zj ef (fun h1=>?_) (fun h1=>?_)
 ·refine S.Qp jv (by omega) fun sb so Q4 _ _ _=>?_;obtain⟨x,hx⟩:=Yv (show e<st.js.length by omega);refine ZY 5 (Zv (Zx (e) ef (Q4) ef (by omega)) ?_);refine Zv (Zo (jv) (e) ef (Q4) (by rw[List.getElem?_map,hx];rfl)) ?_;refine ZY 5 (Zp (Zc1 Ze (Qt5 b _ ps x (hI.here e x (Nat.le_refl e) hx) (by omega)) ?_));rintro v Θ rfl;rw[←En hI hx];refine ZY 2 (Zv (Za ef ef) (ZY 2 ?_));exact ZX (q-1) (⟨e+1,_,by omega,by omega,rfl,rfl,rfl⟩) (by omega)
 ·have hen:e=st.js.length:=by omega
  refine Zy ?_;exact Zfn ef Zq (by rw[←Er hen])
theorem Q7.sset{st:Br}(h:Q7 st){s:Option (List Nat)}(hs:∀d,s=some d→d.Nodup)(a:Bool):Q7 {st with stops:=s,Qo:=a}:=⟨h.R,h.N,h.Hu,h.Yz,fun x hx=>h.Qm x hx,h.Ev,h.q1,h.q2,h.g1,h.g2,h.now,h.fin,h.mem,hs⟩
theorem Ci{st:Br}(h:Q7 st)(n:Nat):(Qw st n).Qa.length≤st.Qa.length+16*st.js.length:=by
 unfold Qw
 split
 ·omega
 ·split
  ·show st.Qa.length≤_;omega
  ·exact Qb8 Qx5 (st:={st with stops:=none,Qo:=false}) (h.sset (s:=none) (fun d hd=>(by cases hd)) false)
theorem K9(b:Nat)(st:Br)(ps:Nat→Nat)(n:Nat)(hl:st.Qa.length≤880000):Spec Tryz.prog 54 [pt b,.int .i64 (n:Int)] [BP b st ps] fun Γ _ Θ=>Θ=BP b (Qw st n) ps::Γ:=by
 refine Spec.Us fun hok=>?_;have B8:=hok.Ev;refine Spec.U8 Tryz.func54 rfl Tryz.ntmps54 rfl ?_;intro w0 Γ;show S _ w0 [(0,pt b),(1,.int .i64 (n:Int))] (BP b st ps::Γ) _;refine S.Xx b st ps fun ub jb mb ov iv dv mv sb l hF=>?_;cases hs:st.stops with
 | none=>
  have hg:Qw st n=st:=by rw[Qw,hs]
  have hsb:sb=none:=by have:=hF.sn;rw[hs]at this;cases sb with|none=>rfl|some q=>cases this
  subst hsb;refine ZS (ZY 7 (Zv (Ky Tryz.underlying81 rfl rfl) (Zy (ZT ef (Zy (S.Q6 b st ps ub jb mb ov iv dv mv none l hF ?_))))));exact Zf ef Zq (by rw[hg])
 | some s=>
  obtain⟨q,hq⟩:∃q,sb=some q:=by have:=hF.sn;rw[hs]at this;cases sb with|none=>cases this|some q=>exact⟨q,rfl⟩
  subst hq;have G2:=hok.Eu s hs;have hml:=F5 (Vx s n);refine S.conv (Xz (some q) st.stops) (Ent.Qqz hs _) ?_;have Sh:Q7 {st with stops:=none,Qo:=false}:=hok.sset (s:=none) (fun d hd=>(by cases hd)) false;refine ZS (ZY 7 (Zv (Ky Tryz.underlying81 rfl rfl) (Zy (ZF ef (ZY 8 (Zp (S.Jf Tryz.underlying81 Tryz.underlying3 rfl rfl rfl ?_)))))));rw[M4 n G2];refine ZY 8 (ZY 3 ?_)
  refine Zj ef (fun h2=>?_) (fun h2=>?_)
  ·have Uk:Vx s n≠[]:=fun e=>by rw[e]at h2;exact absurd h2 (by decide)
   have hg:Qw st n={st with stops:=some (Vx s n)}:=by rw[Qw,hs];exact if_pos Uk
   refine Zy (S.conv (Qk q .i64 (Xy (Vx s n))) (Ent.Qcv (s:=some (Vx s n)) rfl _) (S.sub (bX b {st with stops:=some (Vx s n)} ps ub jb mb ov iv dv mv (some q) l Γ) ?_));refine S.Q6 b {st with stops:=some (Vx s n)} ps ub jb mb ov iv dv mv (some q) l ⟨hok.sset (s:=some (Vx s n)) (fun d hd=>by cases hd;exact Qag G2 n) st.Qo,hF.perm,hF.on,hF.im,hF.dn,hF.mn,rfl⟩ ?_;exact Zf ef Zq (by rw[hg])
  ·have he0:Vx s n=[]:=List.eq_nil_of_length_eq_zero (by omega);have hg:Qw st n=each Zz {st with stops:=none,Qo:=false} st.ids:=by rw[Qw,hs];exact if_neg (fun h=>h he0)
   refine ZY 8 (ZY 7 (S.Qh (Ent.Pg _) (S.sub (bX b {st with stops:=none,Qo:=false} ps ub jb mb ov iv dv mv none l Γ) ?_)));refine S.Q6 b {st with stops:=none,Qo:=false} ps ub jb mb ov iv dv mv none l ⟨Sh,hF.perm,hF.on,hF.im,hF.dn,hF.mn,rfl⟩ (Zp (Zc1 Ze (Qck b {st with stops:=none,Qo:=false} ps) ?_));rintro v Θ ⟨jv,rfl,hjv,rfl⟩;refine S.Yf jv fun Pz Gq Si=>?_;have hmx:maxLen≤9223372036854775807:=by unfold maxLen;omega
   have hjn:jv.n=st.js.length:=hjv;refine ZY 4 ?_;refine Zl (fun k ρ' Γ'=>∃(e:Nat) (t:Br),k=st.js.length-e∧e≤st.js.length∧t=each Zz {st with stops:=none,Qo:=false} (st.ids.take e)∧ρ'=[(0,pt b),(29,jv.v),(30,.int .i64 (jv.n:Int)),(31,.int .i64 (e:Int))]∧Γ'=own jv 86 1 (pts ps st.js)::BP b t ps::Γ) (m:=_) (⟨0,{st with stops:=none,Qo:=false},rfl,by omega,rfl,rfl,rfl⟩) ?_;rintro k ρ' Γ' ⟨e,t,hk,he,rfl,rfl,rfl⟩;have hI:=Ep Qx5 Sh e he;have hIo:(each Zz {st with stops:=none,Qo:=false} (st.ids.take e)).Qa.length≤st.Qa.length+16*e:=hI.ord;refine ZY 5 ?_
   refine Zj ef (fun h3=>?_) (fun h3=>?_)
   ·refine S.Qp jv (by omega) fun sb so Q4 _ _ _=>?_;obtain⟨x,hx⟩:=Yv (show e<st.js.length by omega);refine ZY 5 (Zv (Zx (e) ef (Q4) ef (by omega)) ?_);refine Zv (Zo (jv) (e) ef (Q4) (by rw[List.getElem?_map,hx];rfl)) ?_;refine ZY 5 (Zp (Zc1 Ze (Qgu b (each Zz {st with stops:=none,Qo:=false} (st.ids.take e)) ps x (hI.here e x (Nat.le_refl e) hx) (by omega)) ?_));rintro v Θ rfl;rw[←En (st:={st with stops:=none,Qo:=false}) hI hx];refine ZY 2 (Zv (Za ef ef) (ZY 2 ?_));exact ZX (k-1) (⟨e+1,_,by omega,by omega,rfl,rfl,rfl⟩) (by omega)
   ·have hen:e=st.js.length:=by omega
    refine Zy ?_;exact Zfn ef Zq (by rw[hg,←Er (st:={st with stops:=none,Qo:=false}) hen])
abbrev Ml(x:Bj)(d:List Nat)(n:Nat):Bj:={x with Qi:=some (Vx d n)}
theorem JOk.Ml{N:Nat}{x:Bj}(h:JOk N x){d:List Nat}(hd:d.Nodup)(n:Nat):JOk N (Ml x d n):=⟨h.B6,h.Al,h.tier,h.k1,h.kn,h.w,h.cr,h.wk,h.Jy,h.at_,fun e he=>(by cases he;exact Qag hd n),h.lod,h.ran,h.ld,h.svl⟩
theorem N3{n:Nat}{st:Br}{x:Bj}(h:n∉x.at_):Yk n st x=st:=by rw[Yk,if_neg h]
theorem Dh{n:Nat}{st:Br}{x:Bj}(h:n∈x.at_)(hd:x.Qi=none):Yk n st x=Y9 st x true:=by rw[Yk,if_pos h,hd]
theorem Dg{n:Nat}{st:Br}{x:Bj}(h:n∈x.at_){d:List Nat}(hd:x.Qi=some d):Yk n st x=Z6 st (Ml x d n):=by rw[Yk,if_pos h,hd]
theorem Qvz(n:Nat):G0 (Yk n):=by
 refine⟨fun st x h hx=>?_,fun st x id hid=>?_,fun st x h hx=>?_⟩
 ·by_cases hn:n∈x.at_
  ·cases hd:x.Qi with
   | none=>rw[Dh hn hd];exact Qjv h (h.at_ hx) true
   | some d=>rw[Dg hn hd];exact Ek h ((h.at_ hx).Ml ((h.at_ hx).drop d hd) n)
  ·rw[N3 hn];exact h
 ·by_cases hn:n∈x.at_
  ·cases hd:x.Qi with
   | none=>rw[Dh hn hd];exact Qju st true hid
   | some d=>rw[Dg hn hd];exact Qbz st (x:=Ml x d n) hid
  ·rw[N3 hn]
 ·by_cases hn:n∈x.at_
  ·cases hd:x.Qi with
   | none=>
    rw[Dh hn hd];have h1:=(Gs st x true).1;have h2:=Qd5 h hx;omega
   | some d=>
    rw[Dg hn hd,(K7 st (Ml x d n)).1];omega
  ·rw[N3 hn];omega
abbrev Ve(st:Br)(n:Nat):Br:={st with up:=Vx st.up n,m:=(upR st.m n false).2,Qa:=st.Qa.filter fun o=>decide (o.1≠n)}
theorem Qbh{st:Br}(h:Q7 st)(n:Nat):Q7 (Ve st n):=((h.uset (Vx st.up n)).mset (Qe4 h.Hu n false) (Lz _ _ _).1 (Lz _ _ _).2).oset _
theorem Qd2{st:Br}{n:Int}(h:W5 st n true≠0):V1 st n=(W5 st n true,st):=by rw[V1,if_pos h]
theorem A8{st:Br}{n:Nat}(h:¬W5 st n true≠0):V1 st n=(0,Qw (each (Yk n) (Ve st n) st.ids) n):=by rw[V1,if_neg h];rfl
set_option maxHeartbeats 1000000 in
theorem Q9d(b:Nat)(st:Br)(ps:Nat→Nat)(n:Int)(hl:st.Qa.length≤800000):Spec Tryz.prog 15 [pt b,.int .i64 n] [BP b st ps] fun Γ v Θ=>v=.int .i64 (V1 st n).1∧Θ=BP b (V1 st n).2 ps::Γ:=by
 refine Spec.Us fun hok=>?_;have B8:=hok.Ev;refine Zbd Tryz.func15 rfl Tryz.ntmps15 fun w0 Γ=>Zsh (ZY 2 (Zp (S.box (cs:=[_]) rfl rfl rfl ?_)));intro b3;refine ZY 7 (Zp (Zcp Ze (Cq b st ps n true) (ZY 7 ?_)))
 refine Zj ef (fun h1=>?_) (fun h1=>?_)
 ·have hu:=Qd2 h1;refine ZY 6 ?_;exact Zf ef Zq (⟨by rw[hu];rfl,by rw[hu]⟩)
 ·have hr:=S7 (Classical.byContradiction h1);obtain⟨k,rfl⟩:∃k:Nat,n=k:=⟨n.toNat,by omega⟩;have hu:=A8 h1;have Sh:=Qbh hok k;have hfl:(Ve st k).Qa.length≤st.Qa.length:=List.length_filter_le _ _;refine S.Xx b st ps fun ub jb mb ov iv dv mv sb l hF=>?_;refine S.Qbf ub fun Ql9=>?_;have G2:=Qad Ql9;refine ZY 2 ?_;refine Zd ([blk b3 3 #[.int .i64 (k:Int)],blk b 84 (bC st ub jb mb ov iv dv mv sb).toArray]) [] (Zra 0 5) (ZY 5 ?_);refine Z1 (i:=5) ef ef ?_;refine(S.Jf Tryz.underlying81 Tryz.underlying3 rfl rfl rfl ?_);rw[M4 k G2];refine Zk [] ?_;refine ZD (Zy ?_);refine Zd ([blk b3 3 #[.int .i64 (k:Int)],blk b 84 (bC st ub jb mb ov iv dv mv sb).toArray]) [] (Zra 0 5) (ZY 5 ?_);refine Z1 (i:=5) ef ef ?_;refine  (Zcp Ze (Go.Proofs.YtdackcibfkkniaaGreatDoor.Qsr mb st.m k false) ?_);refine Zk [] ?_;refine ZD (ZY 8 (Zp (Zc1 Ze (Qzh b3 k ov st.Qa hF.on) ?_)));rintro v Θ ⟨ov2,rfl,Wf,rfl⟩;refine ZY 8 (S.sub (blk b3 3 #[.int .i64 (k:Int)]::bX b (Ve st k) ps ub jb mb ov2 iv dv mv sb l Γ) ?_);refine S.Q6 b (Ve st k) ps ub jb mb ov2 iv dv mv sb l ⟨Sh,hF.perm,Wf,hF.im,hF.dn,hF.mn,hF.sn⟩ (Zp (Zc1 Ze (Qck b (Ve st k) ps) ?_));rintro v Θ ⟨jv,rfl,hjv,rfl⟩;refine S.Yf jv fun Pz Gq Si=>?_;have hmx:maxLen≤9223372036854775807:=by unfold maxLen;omega
  have hjn:jv.n=st.js.length:=hjv;refine ZY 4 ?_;refine Zl (fun q ρ' Γ'=>∃(e:Nat) (t:Br),q=st.js.length-e∧e≤st.js.length∧t=each (Yk k) (Ve st k) (st.ids.take e)∧ρ'=[(0,pt b),(3,pt b3),(35,jv.v),(36,.int .i64 (jv.n:Int)),(37,.int .i64 (e:Int))]∧Γ'=blk b3 3 #[.int .i64 (k:Int)]::own jv 86 1 (pts ps st.js)::BP b t ps::Γ) (m:=_) (⟨0,Ve st k,rfl,by omega,rfl,rfl,rfl⟩) ?_;rintro q ρ' Γ' ⟨e,t,hq,he,ht,rfl,rfl⟩;have hI:Qg8 (Yk k) (Ve st k) e:=Ep (Qvz k) Sh e he;have hIo:=hI.ord;have hto:t.Qa.length≤816000:=by rw[ht];exact Nat.le_trans hIo (by omega)
  refine ZY 5 ?_
  refine Zj ef (fun h2=>?_) (fun h2=>?_)
  ·refine S.Qp jv (by omega) fun sb so Q4 _ _ _=>?_;obtain⟨x,hx⟩:=Yv (show e<st.js.length by omega);have Ub:Qg t.js x.id=some x:=by rw[ht];exact hI.here e x (Nat.le_refl e) hx
   have Xf:each (Yk k) (Ve st k) (st.ids.take (e+1))=Yk k t x:=by rw[ht];exact En (st:=Ve st k) hI hx
   have Py:Q7 t:=by rw[ht];exact hI.ok
   have Y5:=Py.at_ Ub;refine S.Wv b t ps x Ub fun ub jb mb ov iv dv mv sb l i av lb db rb qb hF hi Q5 Ld hJ=>(ZY 5 (Zv (Zx (e) ef (Q4) ef (by omega)) ?_));refine Zv (Zo (jv) (e) ef (Q4) (by rw[List.getElem?_map,hx];rfl)) ?_;refine ZY 4 ?_;refine Zd ([blk (ps x.id) 90 (bjC x av lb db rb qb).toArray,blk b3 3 #[.int .i64 (k:Int)]]) [] (Zra 0 5) (ZY 5 ?_);refine Z1 (i:=5) ef ef ?_;refine  (Zcp Ze (Mr (own av 3 1 (nds x.at_)) av x.at_ k hJ.an RdS.own) ?_);refine Zk [6] (Zy ?_);refine ZD ?_
   refine Zi ef (fun h3=>?_) (fun h3=>?_)
   ·have Vb:=N3 (st:=t) (show k∉x.at_ by simpa using h3);refine S.Qn b t ps ub jb mb ov iv dv mv sb l i x av lb db rb qb hi rfl (Q5 x rfl) (hF.set Y5) hJ ?_;rw[Qq Py Ub];refine ZY 2 (Zv (Za ef ef) (ZY 2 ?_));first|exact ZX (q-1) ⟨e+1,t,by omega,by omega,by rw[Xf,Vb],rfl,rfl⟩ (by omega)|exact ZX (q-1) ⟨e+1,Y9 t x true,by omega,by omega,by rw[Xf,Ma],rfl,rfl⟩ (by omega)|exact ZX (q-1) ⟨e+1,Z6 t x1,by omega,by omega,by rw[Xf,Ma,Z4],rfl,rfl⟩ (by omega)
   ·have hin:k∈x.at_:=by simpa using h3
    refine ZY 7 (Zv (Ky Tryz.underlying81 rfl rfl) (Zy ?_))
    refine Zi ef (fun h4=>?_) (fun h4=>?_)
    ·have hd:x.Qi=none:=by have:=hJ.d;rw[Option.isNone_iff_eq_none.1 h4]at this;cases e9:x.Qi with|none=>rfl|some d=>rw[e9]at this;cases this
     have Ma:=Dh (st:=t) hin hd;refine S.Qn b t ps ub jb mb ov iv dv mv sb l i x av lb db rb qb hi rfl (Q5 x rfl) (hF.set Y5) hJ ?_;rw[Qq Py Ub];refine ZY 3 (Zp (Zc1 Ze (Qcb b t ps x true Ub (by omega)) ?_));rintro v Θ rfl;refine ZY 2 (Zv (Za ef ef) (ZY 2 ?_));first|exact ZX (q-1) ⟨e+1,t,by omega,by omega,by rw[Xf,Vb],rfl,rfl⟩ (by omega)|exact ZX (q-1) ⟨e+1,Y9 t x true,by omega,by omega,by rw[Xf,Ma],rfl,rfl⟩ (by omega)|exact ZX (q-1) ⟨e+1,Z6 t x1,by omega,by omega,by rw[Xf,Ma,Z4],rfl,rfl⟩ (by omega)
    ·obtain⟨q2,hq2⟩:∃q,db=some q:=by cases db with|none=>cases h4|some q=>exact⟨q,rfl⟩
     subst hq2;obtain⟨d,hd⟩:∃d,x.Qi=some d:=by have:=hJ.d;cases e9:x.Qi with|none=>rw[e9]at this;cases this|some d=>exact⟨d,rfl⟩
     have Ma:=Dg (st:=t) hin hd;have D7:=Y5.drop d hd;refine S.conv (Xz (some q2) x.Qi) (Ent.Qqz hd _) ?_;obtain⟨x1,Z4⟩:∃x1:Bj,x1=Ml x d k:=⟨_,rfl⟩;have Dy:JOk t.nodes x1:=by rw[Z4];exact Y5.Ml D7 k
     have hid:x1.id=x.id:=by rw[Z4]
     refine Zy ?_;refine Zd ([blk (ps x.id) 90 (bjC x av lb (some q2) rb qb).toArray,blk b3 3 #[.int .i64 (k:Int)]]) [] (Zra 0 5) (ZY 5 ?_);refine Z1 (i:=5) ef ef ?_;refine(S.Jf Tryz.underlying81 Tryz.underlying3 rfl rfl rfl ?_);rw[M4 k D7];refine Zk [] ?_;refine ZD (ZY 3 ?_);refine S.conv (Qk q2 .i64 (Xy (Vx d k))) (Ent.Qcv (show x1.Qi=some (Vx d k) by rw[Z4]) _) (S.Yw (ps x.id) (bjC x1 av lb (some q2) rb qb).toArray (by rw[Z4]) ?_);refine S.sub (jX (ps x.id) x1 av lb (some q2) rb qb (bR b t ps ub jb mb ov iv dv mv sb l i (blk b3 3 #[.int .i64 (k:Int)]::own jv 86 1 (pts ps st.js)::Γ))) (e:=by subst Z4;infer_instance) ?_;refine S.Qn b t ps ub jb mb ov iv dv mv sb l i x1 av lb (some q2) rb qb hi hid (Q5 x1 hid) (hF.set Dy) ⟨by rw[Z4];exact hJ.an,by rw[Z4];exact hJ.l,by rw[Z4];rfl,by rw[Z4];exact hJ.r,by rw[Z4];exact hJ.s⟩ ?_;refine Zp (Zc1 Ze ((hid ▸ Qgo b (t.set x1) ps x1 (H5 t (by rw[hid];exact Ub)):Spec Tryz.prog 53 [pt b,pt (ps x.id)] [BP b (t.set x1) ps] fun Γ _ Θ=>Θ=BP b (Z6 (t.set x1) x1) ps::Γ)) ?_);rintro v Θ rfl;rw[Ej t (x:=x1) (y:=x1) rfl];refine ZY 2 (Zv (Za ef ef) (ZY 2 ?_));first|exact ZX (q-1) ⟨e+1,t,by omega,by omega,by rw[Xf,Vb],rfl,rfl⟩ (by omega)|exact ZX (q-1) ⟨e+1,Y9 t x true,by omega,by omega,by rw[Xf,Ma],rfl,rfl⟩ (by omega)|exact ZX (q-1) ⟨e+1,Z6 t x1,by omega,by omega,by rw[Xf,Ma,Z4],rfl,rfl⟩ (by omega)
  ·have hen:e=st.js.length:=by omega
   have htl:t=each (Yk k) (Ve st k) st.ids:=by rw[ht,←Er (st:=Ve st k) hen]
   refine ZY 5 (Zp (Zc1 Ze (K9 b t ps k (by omega)) ?_));rintro v Θ rfl;rw[htl];refine ZY 6 ?_;exact Zf ef Zq (⟨by rw[hu];rfl,by rw[hu]⟩)
abbrev agX(x:Bj):Bj:={x with again:=false}
theorem JOk.agX{N:Nat}{x:Bj}(h:JOk N x):JOk N (agX x):=⟨h.B6,h.Al,h.tier,h.k1,h.kn,h.w,h.cr,h.wk,h.Jy,h.at_,h.drop,h.lod,h.ran,h.ld,h.svl⟩
theorem Qgx{st:Br}{x:Bj}{d:List Nat}(hg:Qg st.js x.id=some x)(hd:x.Qi=some d)(ha:x.again=true):Yr st x.id=(0,st.set (agX x)):=by
 unfold Yr;rw[hg];show (match x.Qi with|none=>_|some _=>_)=_
 split
 ·rename_i e;rw[hd]at e;cases e
 ·exact if_pos ha
theorem Qzi(b:Nat)(st:Br)(ps:Nat→Nat)(id:Nat)(hl:st.Qa.length≤900000):Spec Tryz.prog 29 [pt b,.int .u32 (id:Int)] [BP b st ps] fun Γ v Θ=>v=.int .i64 (Yr st id).1∧Θ=BP b (Yr st id).2 ps::Γ:=by
 refine Spec.Us fun hok=>?_;refine Spec.U8 Tryz.func29 rfl Tryz.ntmps29 rfl ?_;intro w0 Γ;show S _ w0 [(0,pt b),(1,.int .u32 (id:Int))] (BP b st ps::Γ) _;cases hg:Qg st.js id with
 | none=>
  have hc:Yr st id=(6,st):=by rw[Yr,hg]
  refine S.Xx b st ps fun ub jb mb ov iv dv mv sb l hF=>?_;refine ZS (ZY 8 (ZY 7 ?_));refine Zvg ef ef ef (Qj (.pointer none) Tryz.underlying82 Tryz.underlying31 Tryz.Ud.h rfl rfl rfl (by rw[Wn hok.Yz hF.perm,hg];rfl)) (ZY 8 (ZY 8 (ZY 8 (ZY 8 (Zy (S.Q6 b st ps ub jb mb ov iv dv mv sb l hF ?_))))));exact Zf ef Zq (⟨by rw[hc];rfl,by rw[hc]⟩)
 | some x=>
 obtain⟨_,K0⟩:=Qd hg;subst K0;have Y5:=hok.at_ hg;refine S.Wv b st ps x hg fun ub jb mb ov iv dv mv sb l i av lb db rb qb hF hi Q5 Ld hJ=>?_;have J0:Q1 (x.id:Int) l=some (pt (ps x.id)):=by rw[Wn hok.Yz hF.perm,hg];rfl
 cases hd:x.Qi with
 | none=>
  have hc:Yr st x.id=(0,Y9 st x false):=by rw[Yr,hg];dsimp only;rw[hd]
  have hdb:db=none:=by have:=hJ.d;rw[hd]at this;cases db with|none=>rfl|some q=>cases this
  subst hdb;refine ZS (ZY 8 (ZY 7 ?_));refine Zvg ef ef ef (Qj (pt (ps x.id)) Tryz.underlying82 Tryz.underlying31 Tryz.Ud.h rfl rfl rfl (by rw[J0];rfl)) (ZY 8 ?_);refine Zvg ef ef ef (Qj (pt (ps x.id)) Tryz.underlying82 Tryz.underlying31 Tryz.Ud.h rfl rfl rfl (by rw[J0];rfl)) (ZY 3 (Zvg ef ef ef (J7 Tryz.underlying81 rfl rfl) (ZY 8 (ZY 8 (ZY 7 ?_)))));refine Zv (Qj (pt (ps x.id)) Tryz.underlying82 Tryz.underlying31 Tryz.Ud.h rfl rfl rfl (by rw[J0];rfl)) (ZY 8 (Zy (Zv (J7 Tryz.underlying81 rfl rfl) (Zy (ZF ef (ZY 5 (S.Qn b st ps ub jb mb ov iv dv mv sb l i x av lb none rb qb hi rfl (Q5 x rfl) (hF.set Y5) hJ ?_)))))));rw[Qq hok hg];refine Zp (Zc1 Ze (Qcb b st ps x false hg hl) ?_);rintro v Θ rfl;refine ZY 6 ?_;exact Zf ef Zq (⟨by rw[hc];rfl,by rw[hc]⟩)
 | some d=>
  obtain⟨q,hq⟩:∃q,db=some q:=by have:=hJ.d;rw[hd]at this;cases db with|none=>cases this|some q=>exact⟨q,rfl⟩
  subst hq;refine ZS (ZY 8 (ZY 7 ?_));refine Zvg ef ef ef (Qj (pt (ps x.id)) Tryz.underlying82 Tryz.underlying31 Tryz.Ud.h rfl rfl rfl (by rw[J0];rfl)) (ZY 8 ?_);refine Zvg ef ef ef (Qj (pt (ps x.id)) Tryz.underlying82 Tryz.underlying31 Tryz.Ud.h rfl rfl rfl (by rw[J0];rfl)) (ZY 3 (Zvg ef ef ef (J7 Tryz.underlying81 rfl rfl) (ZY 6 ?_)));refine Zvg ef ef ef (Qj (pt (ps x.id)) Tryz.underlying82 Tryz.underlying31 Tryz.Ud.h rfl rfl rfl (by rw[J0];rfl)) (ZY 7 ?_)
  refine Zi ef (fun h1=>?_) (fun h1=>?_)
  ·have ha:x.again=false:=by simpa using h1
   have hc:Yr st x.id=(6,st):=by rw[Yr,hg];dsimp only;rw[hd];dsimp only;rw[ha];rfl
   refine ZY 5 (S.Qn b st ps ub jb mb ov iv dv mv sb l i x av lb (some q) rb qb hi rfl (Q5 x rfl) (hF.set Y5) hJ ?_);rw[Qq hok hg];exact Zf ef Zq (⟨by rw[hc];rfl,by rw[hc]⟩)
  ·have ha:x.again=true:=by simpa using h1
   have hc:=Qgx hg hd ha;refine ZY 8 ?_;refine Zv (Qj (pt (ps x.id)) Tryz.underlying82 Tryz.underlying31 Tryz.Ud.h rfl rfl rfl (by rw[J0];rfl)) (ZY 8 (Zy (Zv (J7 Tryz.underlying81 rfl rfl) (Zy (ZT ef (ZY 8 (ZY 4 ?_)))))));refine S.Qn b st ps ub jb mb ov iv dv mv sb l i (agX x) av lb (some q) rb qb hi rfl (Q5 (agX x) rfl) (hF.set Y5.agX) ⟨hJ.an,hJ.l,hJ.d,hJ.r,hJ.s⟩ ?_;exact Zf ef Zq (⟨by rw[hc];rfl,by rw[hc]⟩)
theorem Ent.Qp0(F:Bj→Assn)(x:Bj):∀(js:List Bj) (Γ:List Assn),Ent (F x::alls js F::Γ) (alls (Kl x js) F::Γ)
 | [],Γ=>Ent.Gy F x [] Γ
 | y::l,Γ=>by
  unfold Kl
  split
  ·exact Ent.Gy F x (y::l) Γ
  ·exact(((Ent.Gx F y l Γ).cons _).trans (Ent.swap _ _ _)).trans (((Ent.Qp0 F x l Γ).cons _).trans (Ent.Gy F y _ Γ))
abbrev psN(ps:Nat→Nat)(id p:Nat):Nat→Nat:=fun i=>if i=id then p else ps i
theorem Qu0(ps:Nat→Nat)(id p:Nat):psN ps id p id=p:=if_pos rfl
theorem Zey{ps:Nat→Nat}{p:Nat}{x:Bj}{js:List Bj}(h:∀y∈js,y.id≠x.id)(Γ:List Assn):Ent (JI p x::alls js (jI ps)::Γ) (alls (Kl x js) (jI (psN ps x.id p))::Γ):=by
 have h1:js.map (jI ps)=js.map (jI (psN ps x.id p)):=List.map_congr_left fun y hy=>by
  show JI (ps y.id) y=JI (psN ps x.id p y.id) y;rw[show psN ps x.id p y.id=ps y.id from if_neg (h y hy)]
 have h2:Ent (JI p x::alls js (jI (psN ps x.id p))::Γ) (alls (Kl x js) (jI (psN ps x.id p))::Γ):=by
  have:=Ent.Qp0 (jI (psN ps x.id p)) x js Γ;rw[show jI (psN ps x.id p) x=JI p x by show JI (psN ps x.id p x.id) x=_;rw[Qu0]]at this;exact this
 exact((Ent.Qsl h1 Γ).cons _).trans h2
theorem Zex{ps:Nat→Nat}{p:Nat}{x:Bj}{js:List Bj}{l:List (Int×Value)}(hs:Kp js)(hp:l.Perm (js.map (jE ps)))(h:Qg js x.id=none):(Yd (x.id:Int) (pt p) l).Perm ((Kl x js).map (jE (psN ps x.id p))):=by
 have h0:Q1 (x.id:Int) l=none:=by rw[Wn hs hp,h];rfl
 rw[Qsm h0]
 have h1:js.map (jE ps)=js.map (jE (psN ps x.id p)):=List.map_congr_left fun y hy=>by
  show jE ps y=_;simp only[jE,psN,if_neg (V4 h y hy)]
 have h2:jE (psN ps x.id p) x=((x.id:Int),pt p):=by simp only[jE,psN,if_true]
 refine(List.perm_append_comm).trans ((?_:List.Perm _ _).trans ((Po x js).map _).symm);show List.Perm (((x.id:Int),pt p)::l) (jE (psN ps x.id p) x::js.map (jE (psN ps x.id p)));rw[h2,←h1];exact hp.cons _
theorem Qxs{x:Bj}{js:List Bj}(hs:Kp js)(h:∀y∈js,y.id≠x.id):Qg (Kl x js) x.id=some x:=X3 (La hs h) (V0.2 (.inl rfl))
abbrev Ug(st:Br)(x:Bj):Br:={st with js:=Kl x st.js}
theorem Qpa{st:Br}(h:Q7 st){x:Bj}(hx:JOk st.nodes x)(hn:Qg st.js x.id=none)(hl:st.js.length≤999):Q7 (Ug st x):=h.jset (La h.Yz (V4 hn)) (fun y hy=>by
 rcases V0.1 hy with rfl|hy
 ·exact hx
 ·exact h.Qm y hy) (by rw[(Po x st.js).length_eq,List.length_cons];omega)
theorem Qot{st:Br}{id tier k w Qb ver:Nat}(Cb:id≤4294967295)(h:Fm st (U9 id tier k w Qb ver)=true):JOk st.nodes (U9 id tier k w Qb ver):=by
 unfold Fm at h;simp only[Bool.and_eq_true]at h;obtain⟨⟨⟨⟨⟨⟨h1,h2⟩,h3⟩,_⟩,h5⟩,h6⟩,h7⟩:=h;have g1:id≠0:=of_decide_eq_true h1;exact⟨by show 1≤id;omega,Cb,of_decide_eq_true h7,of_decide_eq_true h2,of_decide_eq_true h3,of_decide_eq_true h5,of_decide_eq_true h6,of_decide_eq_true h6,List.Pairwise.nil,fun n hn=>(by cases hn),fun d hd=>(by cases hd),fun d hd=>(by cases hd),fun r hr=>(by cases hr),fun e=>absurd (show (0:Nat)=1 from e) (by decide),fun s hs=>(by cases hs)⟩
theorem Q5y(b:Nat)(st:Br)(ps:Nat→Nat)(id tier k w Qb ver s:Nat)(Cb:id≤4294967295)(hadd:Fm st (U9 id tier k w Qb ver)=true)(B8:st.js.length≤999)(hl:st.Qa.length≤900000)(hd:st.done.length≤900000) :
  Spec Tryz.prog 13 [pt b,.agg #[.int .u32 (id:Int),.int .u8 (tier:Int),.int .i64 (k:Int),.int .i64 (w:Int),.int .u8 (s:Int),.int .i64 (Qb:Int)],.int .u32 (ver:Int)] [BP b st ps] fun Γ v Θ=>∃ps',v=.int .i64 (Fx st (U9 id tier k w Qb ver)).1∧Θ=BP b (Fx st (U9 id tier k w Qb ver)).2 ps'::Γ:=by
 refine Spec.Us fun hok=>?_;obtain⟨x,hx⟩:∃x,x=U9 id tier k w Qb ver:=⟨_,rfl⟩;have Y5:JOk st.nodes x:=by rw[hx];exact Qot Cb hadd
 have K0:x.id=id:=by subst hx;rfl
 have hN:=hok.Bz;have hk1:1≤k:=by have:=Y5.k1;rw[hx]at this;exact this
 have hkn:k≤st.nodes:=by have:=Y5.kn;rw[hx]at this;exact this
 have Zkl:1≤id:=by have:=Y5.B6;rw[hx]at this;exact this
 have hw1:1≤w:=by
  unfold Fm at hadd;simp only[Bool.and_eq_true]at hadd;exact of_decide_eq_true hadd.1.1.1.2
 have hw2:w≤10000:=by have:=Y5.w;rw[hx]at this;exact this
 have hcr:Qb≤w:=by have:=Y5.cr;rw[hx]at this;exact this
 have hti:tier≤3:=by have:=Y5.tier;rw[hx]at this;exact this
 refine Spec.U8 Tryz.func13 rfl Tryz.ntmps13 rfl ?_;intro w0 Γ;show S _ w0 [(0,pt b),(1,.agg #[.int .u32 (id:Int),.int .u8 (tier:Int),.int .i64 (k:Int),.int .i64 (w:Int),.int .u8 (s:Int),.int .i64 (Qb:Int)]),(2,.int .u32 (ver:Int))] (BP b st ps::Γ) _;refine S.Xx b st ps fun ub jb mb ov iv dv mv sb l hF=>?_;cases hg:Qg st.js id with
 | some y=>
  have hc:Fx st (U9 id tier k w Qb ver)=(7,st):=by
   unfold Fx;rw[if_neg (by rw[hadd];decide),if_pos (by show (Qg st.js id).isSome=true;rw[hg];rfl)]
  refine ZS (ZY 2 (Zp (S.box (cs:=[_,_,_,_,_,_]) rfl rfl rfl ?_)));intro b4;refine ZY 8 (ZY 2 (ZF ef (Zy ?_)));refine Zd ([blk b4 35 #[.int .u32 (id:Int),.int .u8 (tier:Int),.int .i64 (k:Int),.int .i64 (w:Int),.int .u8 (s:Int),.int .i64 (Qb:Int)],blk b 84 (bC st ub jb mb ov iv dv mv sb).toArray]) [] (Zra 0 4) (ZY 4 (Zu 15 false ef ((decide_eq_false (by omega))) ?_));refine Zr (Zra 4 5) (ZY 5 (Zu 20 false ef ((decide_eq_false (by omega))) ?_));refine Zr (Zra 9 10) (ZY 8 (ZY 2 (Zu 30 false ef ((decide_eq_false (by omega))) ?_)));refine Zr (Zra 19 5) (ZY 5 (Zu 35 false ef ((decide_eq_false (by omega))) ?_));refine Zr (Zra 24 5) (ZY 5 (Zu 40 false ef ((decide_eq_false (by omega))) ?_));refine Zr (Zra 29 5) (ZY 5 (Zu 45 false ef ((decide_eq_false (by omega))) ?_));refine Zr (Zra 34 7) (ZY 7 (Zu 52 false ef ((decide_eq_false (by omega))) ?_));refine Zr (Zra 41 5) (ZY 5 ?_);refine ZD ?_
  refine Zj ef (fun h2=>?_) (fun h2=>?_)
  ·exact absurd h2 (by omega)
  ·refine Zy ?_;refine Zd0 (Zra 0 9) (ZY 6 ?_);refine Zw ef (Qj (pt (ps y.id)) Tryz.underlying82 Tryz.underlying31 Tryz.Ud.h rfl rfl rfl (by rw[Wn hok.Yz hF.perm,hg];rfl)) (ZY 2 ?_);refine ZD (ZT ef (ZY 5 (S.Q6 b st ps ub jb mb ov iv dv mv sb l hF ?_)));exact Zf ef Zq (⟨ps,by rw[hc];rfl,by rw[hc]⟩)
 | none=>
  have Ub:Qg st.js x.id=none:=by rw[K0];exact hg
  have hc:Fx st (U9 id tier k w Qb ver)=(0,Q0 (Ug st x) x):=by
   unfold Fx;rw[if_neg (by rw[hadd];decide),if_neg (by show ¬(Qg st.js id).isSome=true;rw[hg];simp),hx]
  have Sh:=Qpa hok Y5 Ub B8;refine ZS (ZY 2 (Zp (S.box (cs:=[_,_,_,_,_,_]) rfl rfl rfl ?_)));intro b4;refine ZY 8 (ZY 2 (ZF ef (Zy ?_)));refine Zd ([blk b4 35 #[.int .u32 (id:Int),.int .u8 (tier:Int),.int .i64 (k:Int),.int .i64 (w:Int),.int .u8 (s:Int),.int .i64 (Qb:Int)],blk b 84 (bC st ub jb mb ov iv dv mv sb).toArray]) [] (Zra 0 4) (ZY 4 (Zu 15 false ef ((decide_eq_false (by omega))) ?_));refine Zr (Zra 4 5) (ZY 5 (Zu 20 false ef ((decide_eq_false (by omega))) ?_));refine Zr (Zra 9 10) (ZY 8 (ZY 2 (Zu 30 false ef ((decide_eq_false (by omega))) ?_)));refine Zr (Zra 19 5) (ZY 5 (Zu 35 false ef ((decide_eq_false (by omega))) ?_));refine Zr (Zra 24 5) (ZY 5 (Zu 40 false ef ((decide_eq_false (by omega))) ?_));refine Zr (Zra 29 5) (ZY 5 (Zu 45 false ef ((decide_eq_false (by omega))) ?_));refine Zr (Zra 34 7) (ZY 7 (Zu 52 false ef ((decide_eq_false (by omega))) ?_));refine Zr (Zra 41 5) (ZY 5 ?_);refine ZD ?_
  refine Zj ef (fun h2=>?_) (fun h2=>?_)
  ·exact absurd h2 (by omega)
  ·refine Zy ?_;refine Zd0 (Zra 0 9) (ZY 6 ?_);refine Zw ef (Qj (.pointer none) Tryz.underlying82 Tryz.underlying31 Tryz.Ud.h rfl rfl rfl (by rw[Wn hok.Yz hF.perm,hg];rfl)) (ZY 2 ?_);refine ZD (ZF ef (ZY 8 (ZY 4 ?_)));refine Zv (Q3 (pvs:=[(_,_),(_,_),(_,_)]) [_,_,_,_,_,_,_,_,_,_,_,_,_,_,_,_,_] Tryz.z90.h Tryz.p90.h ⟨⟨rfl,rfl⟩,⟨rfl,rfl⟩,⟨rfl,rfl⟩,trivial⟩ rfl) (Zp (S.box (cs:=[_,_,_,_,_,_,_,_,_,_,_,_,_,_,_,_,_]) rfl rfl rfl ?_));intro b72;refine ZY 3 ?_;refine Zd ([blk b4 35 #[.int .u32 (id:Int),.int .u8 (tier:Int),.int .i64 (k:Int),.int .i64 (w:Int),.int .u8 0,.int .i64 (Qb:Int)],blk b 84 (bC st ub jb mb ov iv dv mv sb).toArray]) [7] (Zra 0 7) (ZY 7 ?_);refine Z1 (i:=7) ef ef ?_;refine(S.mapUpdate Tryz.underlying82 Tryz.underlying31 rfl rfl rfl rfl ?_);refine ZL ([]) [] ?_;refine ZD (ZY 4 ?_);have hps:=Qu0 ps id b72;have hgi:Qg (Ug st x).js x.id=some x:=Qxs hok.Yz (V4 Ub)
   have Lb:Spec Tryz.prog 39 [pt b,pt b72] [BP b (Ug st x) (psN ps id b72)] fun Γ _ Θ=>Θ=BP b (Q0 (Ug st x) x) (psN ps id b72)::Γ:=by
    have:=Qb5 b (Ug st x) (psN ps id b72) x hgi hl hd;rw[K0,hps]at this;exact this
   have hF2:BF (Ug st x) (psN ps id b72) ov iv dv mv sb (Yd (id:Int) (pt b72) l):=⟨Sh,by rw[←K0];exact Zex hok.Yz hF.perm Ub,hF.on,hF.im,hF.dn,hF.mn,hF.sn⟩;refine S.Yw b72 (bjC x SV.nil none none none none).toArray (by subst hx;rfl) ?_;refine S.Qh (show Ent _ (own SV.nil 3 1 (nds (U9 id tier k w Qb ver).at_)::_) from Ent.Ye 3 1) (S.Qh ((Ent.Pg _).trans ((Ent.Pg _).trans ((Nu _).trans (L6 x.id _)))) ?_);refine S.sub (jX b72 x SV.nil none none none none (bX b st ps ub jb mb ov iv dv mv sb (Yd (id:Int) (pt b72) l) Γ)) (e:=by subst hx;infer_instance) ?_;refine S.N8 b72 x SV.nil none none none none (by subst hx;rfl) (by subst hx;rfl) (by subst hx;rfl) (by subst hx;rfl) (by subst hx;rfl) (S.sub (JI b72 x::alls st.js (jI ps)::blk b 84 (bC st ub jb mb ov iv dv mv sb).toArray::Qk ub .i64 (Xy st.up)::Qk jb .u32 (Yd (id:Int) (pt b72) l)::MI mb st.m::own ov 97 14 (st.Qa.flatMap odC)::imgs iv st.Qe::own dv 31 1 (Q9 st.done)::own mv 31 1 (Q9 st.members)::Xz sb st.stops::Γ) (S.Qh (Zey (ps:=ps) (V4 Ub) _) ?_));rw[K0];refine S.sub (bX b (Ug st x) (psN ps id b72) ub jb mb ov iv dv mv sb (Yd (id:Int) (pt b72) l) Γ) (S.Q6 b (Ug st x) (psN ps id b72) ub jb mb ov iv dv mv sb _ hF2 (Zp (Zc1 Ze (Lb) ?_)));rintro v Θ rfl;refine ZY 6 ?_;exact Zf ef Zq (⟨psN ps id b72,by rw[hc];rfl,by rw[hc]⟩)
end BN
theorem Quw{P:Program}{n:Nat}{ρ:Env}{Γ:List Assn}{ty:TypeId}{pos:String}{af:Array Edge}{gd:Option (Nat×Bool)}{ds:Option Tmp}{t:TypeId}{xs:List (Nat×Operand)}{pvs:List (Nat×Value)}{zs:List Value}{m s:Nat}(vs:List Value)(hz:Wr P t=some zs)(hp:Qsi P t=some (m,s))(he:EvP ρ xs pvs)(hf:Qb7 (fun i=>some (i*s,s)) zs pvs=some vs) :
  Qv P n ρ Γ ⟨ds,.build t xs.toArray,ty,pos,af,gd⟩ (.agg vs.toArray):=by
 intro a w ha _
 have hb:P.built t pvs=some vs.toArray:=by
  unfold Wr at hz;unfold Qsi at hp;unfold Program.built;cases hi:P.info? t with
  | none=>simp[hi]at hz
  | some i=>
   cases hz':i.zero with
   | none=>simp[hi,hz']at hz
   | some z=>
    simp only[hi,hz',Option.bind_some,Option.map_some,Option.some.injEq]at hz;cases hu:P.underlying t with
    | none=>simp[hu]at hp
    | some dd=>
     cases dd <;> simp[hu]at hp
     case array k e=>
      obtain⟨ie,h1,rfl,rfl⟩:=hp;simp only[hz',h1];have:=Mg _ pvs zs vs hf;rw[←hz]at this
      simpa using this
 have hr:=run_build (P:=P) w t pvs.toArray vs.toArray hb
 have hm:(xs.toArray.map fun x:Nat×Operand=>(x.1,a.eval x.2))=pvs.toArray:=by
  have:=he.map ha
  simpa using congrArg List.toArray this
 simp only[execOp,hm,Sem.run_bind,hr,Result.andThen_ok,Sem.run_pure]
end Go.Proofs.YtdackcibfkkniaaGreatDoor
