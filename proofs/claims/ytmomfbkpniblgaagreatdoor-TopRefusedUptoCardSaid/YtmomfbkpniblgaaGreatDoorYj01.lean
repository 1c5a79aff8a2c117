/- A part of this claim's proof. -/
import Derived.Test.YtmomfbkpniblgaaGreatDoorYjAb
import Derived.WalkKit
import Derived.Maps.RangeWalk
import Derived.Maps.Ext
import Derived.Lib.SlMapFilter
import Derived.OpenShut
set_option linter.all false
namespace Go.Proofs.YtmomfbkpniblgaaGreatDoor
variable {x y:Nat}{e t:TypeId}{val:Value}
section
namespace Top
abbrev af:=Lb
structure Gr where
 src:Nat
 dst:Nat
 text:af
 deriving DecidableEq
structure Pk where
 peer:Nat
 src:Nat
 text:af
 deriving DecidableEq
structure Ti where
 iC:Bool
 tries:Nat
 last:Nat
 jR:Bool
 since:Nat
 deriving DecidableEq
def Ti.zero:Ti:=⟨false,0,0,false,0⟩
def Ti.du(t:Ti):Ti:={t with jR:=false}
def Ti.heard(t:Ti)(a:Nat):Ti:=if t.jR then t else{t with jR:=true,since:=a}
def Ti.wanted(t:Ti):Ti:={t with iC:=true}
def Ti.zB(t:Ti)(a:Nat):Ti:={t with iC:=true,tries:=t.tries+1,last:=a}
def Ti.made(t:Ti):Ti:={t with iC:=false,tries:=0}
def Ti.after(t:Ti)(rM:Bool):Ti:=if rM then t.du.wanted else t.du
def Ti.kL(t:Ti)(a:Nat):Nat:=
 if t.iC=true/\t.tries=0then 1 else
 if t.iC=true/\t.last+5<=a then(if t.tries=6then 3 else 1)else
 if t.jR=true/\t.since+10<=a then 2 else 0
structure Se where
 ae:Nat
 fy:Nat
 cu:Nat
 send:af
 recv:af
 born:Nat
 aG:Nat
 first:Bool
 next:Nat
 bits:Nat
def Se.oK(s:Se)(c a:Nat):Bool:=decide (s.born+a<=c)
def Se.over(s:Se)(a:Nat):Bool:=s.oK a 180||decide (1000<=s.aG)
def Se.rM(s:Se)(a:Nat):Bool:=s.over a||(s.first&&s.oK a 120)
structure jh where
 ae:Nat
 index:Nat
 static:af
 sec:Nat
 nano:Nat
 aj:Nat
structure Cr(B H K:Type) where
 key:af->Nat->af
 vT:af->Nat->Nat->af
 mark:af->af->af->af
 check:af->af->af->Option (af×Bool)
 fJ:af->af->af->af->Option af
 accept:af->af->af->Option af
 begun:Nat->af->af->af->af->Nat->Nat->Nat->Nat->Option (af×B)
 oZ:af->af->Option (jh×H)
 answer:H->af->af->Nat->Nat->Option (af×af×af)
 finish:B->af->Option (af×af×Nat×Nat)
 shut:Nat->af->Nat->af->Option af
 opened:Nat->af->Nat->af->Option af
 yM:Nat->Nat->Nat->Bool
 wS:Nat->Nat->Nat->Nat×Nat
 take:K->Nat->Nat->Bool×K
 gA:af->Nat
 dW:af->Nat
 aP:Nat->Nat->af
 me:Nat->Nat->af
structure Pe(B:Type) where
 number:Nat
 ag:af
 aD:af
 at_:Nat
 dj:Nat
 br:Nat
 stamped:Bool
 sec:Nat
 nano:Nat
 ew:af
 eQ:Nat
 waits:List af
 begun:Option B
 dp:Nat
 fo:af
 aN:Option Se
 aL:Option Se
 next:Option Se
 tm:Ti
structure Dv(K:Type) where
 here:Nat
 own:af
 ag:af
 an:af
 aj:Nat
 fresh:Nat
 bt:af
 index:Nat
 dr:Nat
 now:Nat
 busy:Bool
 fB:Nat->Option Nat
 bk:K
 out:List Gr
 aE:List Pk
structure De(B K:Type) where
 dv:Dv K
 aI:List (Pe B)
variable{B H K:Type}(C:Cr B H K)
def Dv.dt(d:Dv K)(dst:Nat)(a:af):Dv K:=if dst=0then d else{d with out:=d.out++[⟨d.here,dst,a⟩]}
def Dv.fu(d:Dv K):Dv K:={d with fresh:=d.fresh+1}
def Dv.wo(d:Dv K):Dv K:={d with index:=d.index+1}
def pA(d:Dv K)(p:Pe B):Bool:=match p.aL with
 |none=>false
 |some s=> !s.over d.now
def Pe.marked(d:Dv K)(p:Pe B)(t:af):af:=C.mark p.ag (if p.eQ<d.now then []else p.ew) t
def du(d:Dv K)(p:Pe B)(t:af):Dv K×Pe B:=match p.aL with
 |none=>(d,p)
 |some s=>
  if s.over d.now then(d,p)else
  match C.shut s.ae s.send s.aG t with
  |none=>(d,p)
  |some c=>(d.dt p.at_ ([4,0]++C.aP s.cu 4++C.aP s.aG 8++c),
   {p with aL:=some {s with aG:=s.aG+1},tm:=p.tm.after (Se.rM {s with aG:=s.aG+1} d.now)})
def iB(d:Dv K)(p:Pe B):List af->Dv K×Pe B
 |[]=>(d,p)
 |t::r=>iB (du C d p t).1 (du C d p t).2 r
def flush(d:Dv K)(p:Pe B):Dv K×Pe B:=iB C d {p with waits:=[]} p.waits
def jK(d:Dv K)(p:Pe B):Dv K×Pe B:=
 let a:Dv K:={d with fresh:=d.fresh+1,index:=d.index+1,dr:=d.dr+1}
 match C.begun (min d.aj p.dj) d.own p.ag p.aD (C.key d.an d.fresh) d.now (d.dr%1000000000) d.aj (d.index+1)with
 |none=>(a,p)
 |some (s,b)=>(a.dt p.at_ (p.marked C d s),{p with begun:=some b,dp:=d.index+1,fo:=p.marked C d s,tm:=p.tm.zB d.now})
def eJ(d:Dv K)(p:Pe B):Dv K×Pe B:=
 if p.tm.kL d.now=1then(if p.at_=0then(d,p)else jK C d p)
 else if p.tm.kL d.now=2then(if pA d p then du C d p []else(d,{p with tm:=p.tm.du}))
 else if p.tm.kL d.now=3then(d,{p with waits:=[],begun:=none,tm:=Ti.zero})
 else(d,p)
def eK(d:Dv K):List (Pe B)->Dv K×List (Pe B)
 |[]=>(d,[])
 |p::r=>((eK (eJ C d p).1 r).1,(eJ C d p).2::(eK (eJ C d p).1 r).2)
def De.tick(d:De B K)(n:Nat):De B K:=⟨(eK C {d.dv with now:=d.dv.now+n} d.aI).1,(eK C {d.dv with now:=d.dv.now+n} d.aI).2⟩
def iY(d:Dv K)(p:Pe B)(a:af):Dv K×Pe B:=
 let x:=if pA d p then du C d p a else(d,{p with waits:=(if p.waits.length=4then p.waits.drop 1 else p.waits)++[a],tm:=p.tm.wanted})
 eJ C x.1 x.2
def De.at(d:De B K)(n:Nat)(f:Dv K->Pe B->Dv K×Pe B):De B K:=match d.aI[n]?with
 |none=>d
 |some p=>⟨(f d.dv p).1,d.aI.set n (f d.dv p).2⟩
def De.send(d:De B K)(c dst:Nat)(a:af):De B K×Nat:=
 if 1000<a.length then(d,2)else
 match d.dv.fB dst with
 |none=>(d,13)
 |some n=>(d.at n λv p=>iY C v p (C.me c 4++a),0)
def indexed(a:List (Pe B))(i:Nat):Option Nat:=a.findIdx? λp=>p.begun.isSome&&p.dp==i
def known(c:List (Pe B))(a:af):Option Nat:=c.findIdx? λp=>p.ag==a
def ey(d:Dv K)(a:Nat):af:=C.vT d.bt a d.now
def qs(a b c e:Nat):Bool:=decide (c<a)||(decide (a=c)&&decide (e<b))
def rG(d:Dv K)(p:Pe B)(t:jh):Bool:=decide (d.aj<t.ae)||(p.stamped&& !qs t.sec t.nano p.sec p.nano)||decide (t.ae<p.br)
def iz(d:Dv K)(p:Pe B)(f:Nat)(t:jh)(h:H):Dv K×Pe B:=
 if rG d p t then(d,p)else
 let a:Pe B:={p with stamped:=true,sec:=t.sec,nano:=t.nano,dj:=t.aj,at_:=f}
 let c:Dv K:={d with index:=d.index+1,fresh:=d.fresh+1}
 match C.answer h p.aD (C.key d.an d.fresh) d.aj (d.index+1)with
 |none=>(c,a)
 |some (s,snd,g)=>(c.dt f (a.marked C d s),{a with next:=some ⟨t.ae,d.index+1,t.index,snd,g,d.now,0,false,0,0⟩})
def De.first(d:De B K)(a:Nat)(s:af):De B K:=
 match C.check d.dv.ag (ey C d.dv a) s with
 |none=>d
 |some (text,f)=>
  if d.dv.busy&& !f then
   {d with dv:=(match C.fJ d.dv.ag ((C.key d.dv.an d.dv.fresh).take 24) (ey C d.dv a) s with
    |none=>d.dv.fu
    |some r=>d.dv.fu.dt a r)}
  else
   let c:De B K:={d with dv:={d.dv with bk:=(C.take d.dv.bk a d.dv.now).2}}
   if(C.take d.dv.bk a d.dv.now).1then
    match C.oZ d.dv.own text with
    |none=>c
    |some (t,h)=>match known d.aI t.static with
     |none=>c
     |some n=>c.at n λv p=>iz C v p a t h
   else c
def fT(d:Dv K)(p:Pe B)(j:Nat)(f:af)(b:B):Dv K×Pe B:=
 match C.finish b f with
 |none=>(d,p)
 |some (snd,i,g,h)=>
  let a:=(f.getD 1 0).toNat
  if a<p.br then(d,p)else
  let c:Pe B:={p with dj:=g,br:=max p.br a,at_:=j,aN:=p.aL,aL:=some ⟨a,p.dp,h,snd,i,d.now,0,true,0,0⟩,next:=none,begun:=none,tm:=p.tm.made}
  let x:=if c.waits.isEmpty then du C d c []else(d,c)
  flush C x.1 x.2
def De.second(d:De B K)(a:Nat)(s:af):De B K:=
 match C.check d.dv.ag (ey C d.dv a) s with
 |none=>d
 |some (text,_)=>
  if text.length<10then d else
  match indexed d.aI (C.dW ((text.drop 6).take 4))with
  |none=>d
  |some n=>d.at n λv p=>match p.begun with
   |none=>(v,p)
   |some b=>fT C v p a text b
def De.fJ(d:De B K)(s:af):De B K:=
 if s.length<6then d else
 match indexed d.aI (C.dW ((s.drop 2).take 4))with
 |none=>d
 |some n=>d.at n λv p=>match C.accept p.ag p.fo s with
  |none=>(v,p)
  |some c=>(v,{p with ew:=c,eQ:=v.now+120})
inductive Sl where|aL|aN|next
 deriving DecidableEq
def Pe.slot(p:Pe B):Sl->Option Se
 | .aL=>p.aL
 | .aN=>p.aN
 | .next=>p.next
def Pe.put(p:Pe B):Sl->Se->Pe B
 | .aL,s=>{p with aL:=some s}
 | .aN,s=>{p with aN:=some s}
 | .next,s=>{p with next:=some s}
def Pe.nP(p:Pe B)(i:Nat)(k:Sl):Bool:=match p.slot k with
 |none=>false
 |some s=>s.fy==i
def Pe.qD(p:Pe B)(i:Nat):Option Sl:=[Sl.aL,Sl.aN,Sl.next].find? (p.nP i)
def Se.opens(s:Se)(n:Nat)(aG:af)(a:Nat):Option (af×Se):=
 if s.oK a 180then none else
 if C.yM s.next s.bits n then
  match C.opened s.ae s.recv n aG with
  |none=>none
  |some t=>some (t,{s with next:=(C.wS s.next s.bits n).1,bits:=(C.wS s.next s.bits n).2})
 else none
def eO(d:Dv K)(p:Pe B)(k:Sl)(n:Nat)(aG:af)(c:Nat):Dv K×Pe B:=
 match p.slot k with
 |none=>(d,p)
 |some s=>match s.opens C n aG d.now with
  |none=>(d,p)
  |some (t,s1)=>
   let a:=p.put k s1
   let x:=if k= .next then flush C d {a with aN:=a.aL,aL:=a.next,next:=none,br:=max a.br s1.ae,tm:=a.tm.made,at_:=c}else(d,a)
   let y:Pe B:={x.2with at_:=c}
   if t=[]then(x.1,y)else
   let z:Pe B:={y with tm:=y.tm.heard d.now}
   if t.length<4then(x.1,z)else
   if d.fB (C.gA (t.take 4))=some p.number then({x.1with aE:=x.1.aE++[⟨p.number,C.gA (t.take 4),t.drop 4⟩]},z)else(x.1,z)
def Bc(a:List (Pe B))(i:Nat):Option Nat:=a.findIdx? λp=>(p.qD i).isSome
def De.data(d:De B K)(a:Nat)(s:af):De B K:=
 if s.length<30then d else
 if s.getD 1 0≠0\/1099511627776<C.dW ((s.drop 6).take 8)then d else
 match Bc d.aI (C.dW ((s.drop 2).take 4))with
 |none=>d
 |some n=>d.at n λv p=>match p.qD (C.dW ((s.drop 2).take 4))with
  |none=>(v,p)
  |some k=>eO C v p k (C.dW ((s.drop 6).take 8)) (s.drop 14) a
def De.comes(d:De B K)(a:Nat)(s:af):De B K:=match s with
 |[]=>d
 |c::_=>if c=1then d.first C a s else if c=2then d.second C a s else if c=3then d.fJ C s else if c=4then d.data C a s else d
structure No(B K:Type) where
 de:De B K
 all:List Pk
structure Li(B K:Type) where
 nodes:List (No B K)
 air:List Gr
structure Ac where
 kind:Int
 a:Int
 b:Int
 c:Int
 src:Nat
 dst:Nat
 text:af
def iA(air a:List Gr):List Gr:=air++a.take (60-air.length)
def kW(air:List Gr):List (No B K)->List Gr×List (No B K)
 |[]=>(air,[])
 |n::r=>((kW (iA air n.de.dv.out) r).1,⟨⟨{n.de.dv with out:=[],aE:=[]},n.de.aI⟩,n.all++n.de.dv.aE⟩::(kW (iA air n.de.dv.out) r).2)
def Li.mP(l:Li B K):Li B K:=⟨(kW l.air l.nodes).2,(kW l.air l.nodes).1⟩
def Li.on(l:Li B K)(n:Nat)(f:De B K->De B K):Li B K:=match l.nodes[n]?with
 |none=>l
 |some x=>{l with nodes:=l.nodes.set n {x with de:=f x.de}}
def uN(t:af)(b c:Int):af:=
 let k:=(b.emod t.length).toNat
 t.set k ((t.getD k 0)^^^UInt8.ofNat (c.emod 256).toNat)
def Li.act(l:Li B K)(a:Ac):Li B K×Option Nat:=
 if a.kind=1\/a.kind=7then
  match(if 0<=a.a then l.nodes[a.a.toNat]?else none)with
  |none=>(l,some 7)
  |some x=>
   if a.kind=1then(l.on a.a.toNat λd=>(d.send C a.src a.dst a.text).1,some (x.de.send C a.src a.dst a.text).2)
   else(l.on a.a.toNat λd=>{d with dv:={d.dv with busy:=a.b==1}},some 0)
 else if a.kind=2then
  (⟨l.nodes.map λx=>if 0<=a.a/\a.a<=1099511627776-(x.de.dv.now:Int)then{x with de:=x.de.tick C a.a.toNat}else x,l.air⟩,
   some (match l.nodes.getLast? with
    |none=>0
    |some x=>if 0<=a.a/\a.a<=1099511627776-(x.de.dv.now:Int)then 0 else 1))
 else if 3<=a.kind/\a.kind<=6then
  match(if 0<=a.a then l.air[a.a.toNat]?else none)with
  |none=>(l,some 7)
  |some g=>
   if a.kind=5then(if l.air.length=60then(l,some 9)else({l with air:=l.air++[g]},some 0))
   else if a.kind=6then({l with air:=l.air.set a.a.toNat {g with text:=uN g.text a.b a.c}},some 0)
   else
    let f:Li B K:={l with air:=l.air.eraseIdx a.a.toNat}
    if a.kind=4then(f,some 0)else
    if g.dst=0\/l.nodes.length<g.dst then(f,some 13)else(f.on (g.dst-1) λd=>d.comes C g.src g.text,none)
 else(l,some 1)
def Li.fF(l:Li B K)(a:Ac):Li B K:=(l.act C a).1.mP
end Top
end
section
open Go Go.Maps Go.ChangeMaps Go.RowKit
open Go.WideElems (Fit rd rg pl rd_key rd_val rg_of other_key)
abbrev Dm:=DataW Unit
def ky(x:Nat):Lit:= .int .u32 x
def nm(c:Int):Dm:= .lit (.int .i64 c)
def jv(D:Dm)(m:Nat->Option Int):Prop:=∀x,x<4294967296->Maps.has D (ky x)=(m x).isSome/\∀c,m x=some c->∀z,D.atKey (ky x) z=nm c
def DF (h:x<4294967296):WideAt.IsKeyLit (ky x):=trivial
def DG (h:x≠y):ky x≠ky y:=by intro e;apply h;unfold ky at e;injection e with a c;omega
def Oj (h:x<4294967296):(ky x).sameKey (ky y)=decide (x=y):=by
 by_cases e:x=y
 ·subst e;rw[WideAt.sameKey_self (DF h)];simp
 rw[Maps.sameKey_ne (DG e)];simp[e]
def uO(m:Nat->Option Int)(x:Nat)(v:Option Int):Nat->Option Int:=λy=>if y=x then v else m y
def S9:jv (.map []) (λ_=>none):=λx _=>⟨rfl,λc h=>by cases h⟩
def IZ {D:Dm}{m:Nat->Option Int}(h:jv D m)(f:IsMap D)(g:x<4294967296)(c:Int):jv (D.put (ky x) (nm c)) (uO m x (some c)):=by
 intro y i;unfold uO;by_cases e:y=x
 ·subst e;rw[av rfl,has_put_same f (DF g)];refine ⟨rfl,λd a z=>?_⟩;cases a;exact atKey_put_same f (DF g) _ _
 rw[au e,has_put_other (DG e)];refine ⟨(h y i).1,λd a z=>?_⟩;rw[atKey_put_other (DG e)];exact (h y i).2 d a z
def Good(D:Dm):Prop:=∃a,D= .map a/\a.Pairwise (λp q=>p.1≠q.1)/\∀p∈a,∃(x:Nat) (c:Int),x<4294967296/\p=(ky x,nm c)
def ND {P}{k:TypeId}{w:World}{b n:Nat}{D:Dm}(h:w.ownsMap P k (plainElem P e) b n D)(i:P.underlying k=some (.int .u32))(u:P.underlying e=some (.int .i64)):Good D:=by
 obtain ⟨l,g,s,_⟩:=h.entries (int_keyed i);refine ⟨l,g,s,λp j=>?_⟩;obtain ⟨es,U,_,F,_,d⟩:=h;rw[g]at d;injection d with d;rw[d]at j;obtain ⟨x,v,rfl⟩:=eS.1 (mem_sorted.1 j);obtain ⟨y,f⟩:=F.reads x v;obtain ⟨a,h1,m,o⟩:=Maps.keyOf_int_inv i (rd_key f);obtain ⟨z,I,J⟩:=rd_val f;obtain ⟨c,h4,q,h6⟩:=plainElem_int_inv u I;have hb:=bounds_u32 o;refine ⟨a.toNat,c,pm,?_⟩;rw[rg_of f];refine Prod.ext ?_ ?_
 ·show y.1=ky a.toNat;rw[m];unfold ky;rw[BC pm]
 show _=nm c;rw[J,q];rfl
def T8 {D:Dm}{m:Nat->Option Int}(h:jv D m)(g:Good D)(i:Lit->Dm->Bool)(a1:∀l c,i l (nm c)=decide (5<=c)):jv (Lib.deleteFuncD i D) (λx=>(m x).filter λc=>decide (c<5)):=by
 obtain ⟨o,rfl,J,a4⟩:=g;intro x hx;obtain ⟨a,h2⟩:=h x hx;have u:=DF hx;cases hm:m x with
 |none=>rw[hm]at a;refine ⟨?_,λc f=>by simp[hm]at f⟩;simp only[hm,Option.filter_none,Option.isSome_none]at a⊢;rw[Maps.has_eq,Fg]at a;show Maps.has (.map (o.filter _)) _=_;rw[Maps.has_eq,Fg];exact λp v=>a p (xn.1 v).1
 |some c=>
  rw[hm]at a;have h3:=h2 c hm;obtain ⟨p,v,a2⟩:=xh.1 a;have j:=BJ a2;have I:p.2=nm c:=by have:=WideAt.atKey_mem .nil u J (d:=p.2) (by rw[<-j];exact v);rw[<-this];exact h3 .nil
  have e3:p=(ky x,nm c):=Prod.ext j I;subst e3;show Maps.has (.map (o.filter λp=> !i p.1 p.2)) _=_/\∀U,_->∀z,(DataW.map (o.filter λp=> !i p.1 p.2)).atKey _ z=_;by_cases f:c<5
  ·have a0:(ky x,nm c)∈o.filter λp=> !i p.1 p.2:=xn.2 ⟨v,by simp[a1];omega⟩;refine ⟨?_,λU s z=>?_⟩
   ·rw[Maps.has_eq];simp only[hm,yU,f,zg,sf,Option.isSome_some];exact xh.2 ⟨_,a0,WideAt.sameKey_self u⟩
   simp only[hm,yU,f,zg,sf]at s;cases s;exact WideAt.atKey_mem z u (J.filter _) a0
  refine ⟨?_,λU s z=>by simp[hm,yU,f]at s⟩;simp only[hm,yU,f,decide_false,tG,oE,Option.isSome_none];rw[Maps.has_eq,Fg];intro q hq a3;obtain ⟨q1,q2⟩:=xn.1 hq;have j:=BJ a3;have I:q.2=nm c:=by have:=WideAt.atKey_mem .nil u J (d:=q.2) (by rw[<-j];exact q1);rw[<-this];exact h3 .nil
  rw[I,a1]at q2;simp at q2;omega
def Ow {α:Type} [DecidableEq α]:∀{l r:List α},l.Nodup->(∀x∈l,x∈r)->l.length<=r.length
 |[],_,_,_=>by simp
 |a::l,r,c,f=>by obtain ⟨h,c⟩:=xm.1 c;have d:a∈r:=f a pu;have:=Ow (l:=l) (r:=r.erase a) c λx g=>(List.mem_erase_of_ne (λe=>by subst e;exact h g)).2 (f x (by simp[g]));rw[List.length_erase_of_mem d]at this;have i:0<r.length:=List.length_pos_of_mem d;simp only[eI];omega
def Ii {D:Dm}(g:Good D):∃a:Ln,a.Nodup/\Maps.size D=a.length/\(∀x∈a,x<4294967296)/\∀x,x<4294967296->(Maps.has D (ky x)=true↔x∈a):=by
 obtain ⟨d,rfl,i,f⟩:=g;have key:∀d:List (Lit×Dm),d.Pairwise (λp q=>p.1≠q.1)->(∀p∈d,∃(x:Nat) (c:Int),x<4294967296/\p=(ky x,nm c))->∃a:Ln,a.Nodup/\d.length=a.length/\(∀x∈a,x<4294967296)/\∀x,x<4294967296->(d.any (λp=>p.1.sameKey (ky x))=true↔x∈a):=by
  intro d i f;induction d with
  |nil=>exact ⟨[],List.nodup_nil,rfl,pu,λx _=>pu⟩
  |cons p d z=>
   obtain ⟨s,u⟩:=List.pairwise_cons.1 i;obtain ⟨a,I,J,U,o⟩:=z u λq j=>f q (by simp[j]);obtain ⟨x,c,l,rfl⟩:=f p pu;refine ⟨x::a,xm.2 ⟨λhm=>?_,I⟩,by simp[J],λy m=>?_,λy m=>?_⟩
   ·obtain ⟨q,j,v⟩:=xh.1 ((o x l).2 hm);exact s q j (BJ v).symm
   ·rcases bp.1 m with rfl|h
    ·exact l
    exact U y h
   rw[List.any_cons,Oj l,xo,o y m,kr,bp];constructor
   ·rintro (h|h)
    ·exact Or.inl h.symm
    exact Or.inr h
   rintro (h|h)
   ·exact Or.inl h.symm
   exact Or.inr h
 exact key d i f
def QC {D:Dm}{m:Nat->Option Int}(g:Good D)(h:jv D m)(d:Ln)(f:∀x,x<4294967296->(m x).isSome=true->x∈d):Maps.size D<=d.length:=by obtain ⟨o,i,j,c,l⟩:=Ii g;rw[j];exact Ow i λx a=>f x (c x a) (by rw[<-(h x (c x a)).1];exact (l x (c x a)).2 a)
def added(m:Nat->Option Int)(more:Int)(left:Lit->Bool):Nat->Option Int:=λx=>(m x).map λc=>if left (ky x)=true then c else c+more
def U0 {D:Dm}{m:Nat->Option Int}(h:jv D m)(more:Int):jv D (added m more (Maps.has D)):=by
 intro x i;obtain ⟨f,g⟩:=h x i;unfold added;refine ⟨by rw[f];cases m x<;>rfl,λc a z=>?_⟩;cases hm:m x with
 |none=>simp[hm]at a
 |some d=>rw[hm]at f a;simp[f]at a;rw[<-a];exact g d hm z
def U1 {D:Dm}{m:Nat->Option Int}{more:Int}{left:Lit->Bool}(h:jv D (added m more left))(f:IsMap D)(a:x<4294967296)(g:left (ky x)=true){c:Int}(hm:m x=some c):
 jv (D.put (ky x) (nm (c+more))) (added m more λz=>left z&& !z.sameKey (ky x)):=by
 have d:=IZ h f a (c+more);have e:uO (added m more left) x (some (c+more))=added m more λz=>left z&& !z.sameKey (ky x):=by
  funext y;unfold uO added;by_cases e:y=x
  ·subst e;rw[av rfl,hm];simp[Oj a]
  rw[au e];have:(ky y).sameKey (ky x)=false:=Maps.sameKey_ne (DG e);simp[this]
 rw[<-e];exact d
def T7 {D:Dm}{m:Nat->Option Int}{more:Int}{left:Lit->Bool}(h:jv D (added m more left))(a:∀c,left c=false):jv D (λx=>(m x).map (·+more)):=by
 have e:added m more left=λx=>(m x).map (·+more):=by funext x;unfold added;simp[a]
 rw[<-e];exact h
end
section
open Go Go.ChangeMaps Go.MapKept Go.WideShapes
open Go.WideElems (Fit rd rg pl rd_key rd_val rg_of other_key)
open Go.Maps (Keyed)
variable{H:Type}{P:Program}{k:TypeId}{R:Value->Option (DataW H×List MemPlace)}{w:World}{b r n:Nat}{D:DataW H}{left:Lit->Bool}{cnt:Nat}
def XB {a:Array MapEntry}{d:Nat}(K:Keyed P k)(v:P.underlying t=some (.map k e))(h:w.heap[b]?=some (.map a d))(F:Fit P k R a d)(a4:a.size<maxLen){key:Value} {z:Lit} {I:DataW H×List MemPlace} (l:keyOf P k key=some z) (hv:R val=some I) (U:∃x∈a.toList,x.key=key):
 ∃(i:Array MapEntry) (j:Nat) (c:MapEntry),(Instr.mapUpdate t (.map (some b)) key val).run P w= .ok () (setBlock w b (.map i d))/\Fit P k R i d/\
  (i.toList.map (rg P k R)).foldr DataW.insert []=putKey z I.1 ((a.toList.map (rg P k R)).foldr DataW.insert [])/\a.toList[j]?=some c/\c.key=key/\i.toList=a.toList.set j ⟨key,val,c.born⟩:=by
 obtain ⟨q,p,a5,J,a3,_⟩:=Maps.fit_store (R':=R) K v h F a4 (λ_ _ _ _ hz=>hz) l hv;rcases K.find w l a.toList F.keys with⟨s,g⟩|⟨j,c,s,g,u⟩
 ·obtain ⟨x,hx,a6⟩:=U;exact absurd a6 (g x hx)
 have hj:a[j]?=some c:=by simpa using g
 have a0:(a.modify j (λf=>{f with key:=key,val:=val})).toList=a.toList.set j {c with key:=key,val:=val}:=by rw[Array.toList_modify,modify_eq_set _ _ _ _ g]
 have o:(Instr.mapUpdate t (.map (some b)) key val).run P w= .ok () (setBlock w b (.map (a.modify j (λf=>{f with key:=key,val:=val})) d)):=by simp[Instr.mapUpdate,rV v,MapKept.run_getObj_map h,K.check w false l,s,hj,u,K.stays w l,MapKept.run_setObj_map _ h,Result.andThen,setBlock]
 have hw:setBlock w b (.map q p)=setBlock w b (.map (a.modify j (λf=>{f with key:=key,val:=val})) d):=by rw[a5]at o;injection o
 have m:=heap_setBlock_same h (.map q p);rw[hw,heap_setBlock_same h]at m;injection m with m;injection m with a1 a2;subst a1 a2;exact ⟨_,j,c,o,J,a3,g,u,a0⟩
def Ov (a:Array MapEntry)(seen:Array Nat):(leftOf a seen).size=((a.toList.map (·.born)).filter λx=> !seen.contains x).length:=by unfold leftOf;rw[<-rT,Array.toList_filter,List.filter_map,cY];rfl
def P7 (h:w.ranges P k R b r n D left cnt)(K:Keyed P k)(ht:P.underlying t=some (.map k e))(hn:n<maxLen){key:Value}{o:Lit}{d:DataW H}{ps:List MemPlace}
 (u:keyOf P k key=some o) (hv:R val=some (d,ps)) (a8:Maps.has D o=true):
 ∃J,(Instr.mapUpdate t (.map (some b)) key val).run P w= .ok () J/\J.ranges P k R b r n (D.put o d) left cnt/\w.mapTurned J b:=by
 have b2:=h.ne;obtain ⟨f,v,c1,seen,c0,q,F,hs,rfl,hr,a3,rfl,a2,b1,b7,b8⟩:=h;have a9:∃x∈f.toList,x.key=key:=by obtain ⟨p,hp,b4⟩:=xh.1 a8;obtain ⟨x,a,rfl⟩:=eS.1 (mem_sorted.1 hp);obtain ⟨y,m⟩:=F.reads x a;refine ⟨x,a,K.inj (rd_key m) ?_⟩;have U:=BJ b4;rw[rg_of m]at U;rw[U];exact u
 obtain ⟨g,j,c,b6,F',b5,s,a',l⟩:=XB K ht q F (kO hs hn) u hv a9;have a1:j<f.toList.length:=(mD.1 s).1;have a7:g.toList.map (·.born)=f.toList.map (·.born):=by
  rw[l,pP];apply oy;intro i;rw[qN];split
  ·rename_i e;subst e;rw[fQ,s];have:j<f.size:=by simpa using a1
   simp[this]
  rfl
 have b9:g.size=f.size:=by rw[<-rT,l,gL,rT]
 have z:c∈f.toList:=dc s;have a6:∀x∈g.toList,x=⟨key,val,c.born⟩\/x∈f.toList:=by
  intro x a;rw[l]at a;rcases pH a with h|h
  ·exact Or.inr h
  exact Or.inl h
 have b3:(⟨key,val,c.born⟩:MapEntry)∈g.toList:=by rw[l];exact List.mem_set a1 _
 have a5:(rg P k R ⟨key,val,c.born⟩).1=o:=by rw[rg_of (WideElems.rd_mk u hv)]
 have a4:(rg P k R c).1=o:=by obtain ⟨y,m⟩:=F.reads c z;have m1:=rd_key m;rw[a',u]at m1;rw[rg_of m,<-aH m1]
 refine ⟨_,b6,⟨g,v,c1,seen,c0,heap_setBlock_same q _,F',by rw[b9];exact hs,by rw[DataW.put_eq,b5],(heap_setBlock_other q _ b2).trans hr,?_,?_,?_,?_,b7,b8⟩,⟨f,v,g,v,q,rfl⟩⟩
 ·intro x a;rcases a6 x a with rfl|h
  ·exact a3 c z
  exact a3 x h
 ·rw[Ov,Ov,a7]
 ·intro x a;rcases a6 x a with rfl|h
  ·rw[a5,<-a4];exact a2 c z
  exact a2 x h
 intro b' b0;obtain ⟨x,a,rfl⟩:=b1 b' b0;obtain ⟨i,I⟩:=nw a;by_cases a0:j=i
 ·subst a0;rw[s]at I;cases I;exact ⟨_,b3,by rw[a5,a4]⟩
 refine ⟨x,?_,rfl⟩;rw[l];exact dc (i:=i) (by rw[lJ a0];exact I)
def acE {g:Array Oper}{rest:List Oper}{o:Oper}{a:Act}{Q:Exit->Act->World->Prop}(l:o.guard=none)(m x v:Operand)(t:TypeId)(u:o.op=Op.mapUpdate t m x v)
 (k e:TypeId) (K:Keyed P k) (I:P.underlying t=some (.map k e)) (R:Value->Option (DataW H×List MemPlace)) (b r n:Nat) (D:DataW H) (left:Lit->Bool) (cnt:Nat)
 (hm:a.eval m= .map (some b)) (h:w.ranges P k R b r n D left cnt) (s:n<maxLen) (key val:Value) (f:Lit) (hx:a.eval x=key) (J:a.eval v=val) (q:keyOf P k key=some f) (p:Maps.has D f=true)
 (d:DataW H) (ps:List MemPlace) (U:R val=some (d,ps))
 (i:∀c,c.ranges P k R b r n (D.put f d) left cnt->w.mapTurned c b->wpList P g Q rest (a.put o.dst undef) c):
 wpList P g Q (o::rest) a w:=by
 refine BX l λK' j=>?_;obtain ⟨c,z,r1,r2⟩:=P7 h K I s q U p;unfold Oper.wp;simp[execOp,u,hm,hx,J,z,Result.andThen];exact j _ _ (i c r1 r2)
end
section
abbrev Pf:=List Bool
def ji(b:Bool):Nat:=if b then 1 else 0
def uQ:Pf->Nat
 |p=>p.foldl (λn b=>2*n+ji b) 0
def JP (p:Pf)(b:Bool):uQ (p++[b])=2*uQ p+ji b:=by unfold uQ;rw[Ff];rfl
def FL (b:Bool):ji b<=1:=by cases b<;>decide
def QG {P:Pf->Prop}(h0:P [])(h1:∀p b,P p->P (p++[b])):∀p,P p:=by
 intro p;have:∀r:Pf,P r.reverse:=by
  intro r;induction r with
  |nil=>exact h0
  |cons b r a=>rw[List.reverse_cons];exact h1 _ _ a
 have h:=this p.reverse;rwa[List.reverse_reverse]at h
def SG {a b:Bool}(h:ji a=ji b):a=b:=by cases a<;>cases b<;>first|rfl|(exact absurd h ut)
def aci:∀(p q:Pf),p.length=q.length->uQ p=uQ q->p=q:=by
 intro p;induction p using QG with
 |h0=>intro q a _;exact (pG a.symm).symm
 |h1 p b i=>
  intro q a d;rcases List.eq_nil_or_concat q with rfl|⟨f,c,rfl⟩
  ·simp at a
  rw[List.concat_eq_append]at a d⊢;rw[JP,JP]at d;rw[aK,aK]at a;have h1:=FL b;have j:=FL c;have g:uQ p=uQ f:=pm
  have h:ji b=ji c:=pm
  rw[i f (by simpa using a) g,SG h]
def cV(a n:Nat):Pf:=(List.range n).map λi=>a/2^(31-i)%2==1
def vM (a n:Nat):(cV a n).length=n:=by simp[cV]
def Cz (a n:Nat):cV a (n+1)=cV a n++[a/2^(31-n)%2==1]:=by unfold cV;rw[BS,jW];rfl
def SF (n:Nat):ji (n%2==1)=n%2:=by
 have:n%2=0\/n%2=1:=pm
 rcases this with h|h<;>rw[h]<;>rfl
def JO (a:Nat)(c:a<2^32):∀n,n<=32->uQ (cV a n)=a/2^(32-n)
 |0,_=>by rw[Nat.sub_zero,Nat.div_eq_of_lt c];rfl
 |n+1,h=>by
  rw[Cz,JP,JO a c n pm,SF];have e:32-n=(31-n)+1:=pm
  have d:32-(n+1)=31-n:=pm
  rw[e,d,je,<-qJ];generalize a/2^(31-n)=q;omega
abbrev Own:=Pf->Option Int
def nQ(O:Own)(p:Pf):List (Pf×Int):=match O p with
 |some v=>[(p,v)]
 |none=>[]
def jo(O:Own):Nat->Pf->List (Pf×Int)
 |0,_=>[]
 |f+1,p=>nQ O p++(jo O f (p++[false])++jo O f (p++[true]))
def iw(O:Own):List (Pf×Int):=jo O 33 []
def Is (O:Own):∀(f:Nat) (p:Pf),(∀q,O (p++q)=none)->jo O f p=[]
 |0,_,_=>rfl
 |f+1,p,h=>by
  have a:O p=none:=by have:=h [];rwa[ev]at this
  rw[jo,Is O f _ (λq=>by rw[dM];exact h _),Is O f _ (λq=>by rw[dM];exact h _)];unfold nQ;rw[a];rfl
def gX(O:Own)(p:Pf)(v:Int):Own:=λq=>if q=p then some v else O q
def Yl (O:Own)(p:Pf)(v u:Int)(h:O p=some u)(q:Pf):nQ (gX O p v) q=(nQ O q).map (λx=>(x.1,if x.1=p then v else x.2)):=by
 unfold nQ gX;by_cases e:q=p
 ·subst e;rw[h];simp
 simp only[au e];cases O q<;>simp[e]
def It (O:Own)(p:Pf)(v u:Int)(h:O p=some u):∀(f:Nat) (q:Pf),jo (gX O p v) f q=(jo O f q).map (λx=>(x.1,if x.1=p then v else x.2))
 |0,_=>rfl
 |f+1,q=>by rw[jo,jo,jW,jW,Yl O p v u h,It O p v u h f,It O p v u h f]
def Sd (O:Own)(p:Pf)(v u:Int)(h:O p=some u):iw (gX O p v)=(iw O).map (λx=>(x.1,if x.1=p then v else x.2)):=It O p v u h 33 []
def DM (O a:Own):∀(f:Nat) (q:Pf),(∀r:Pf,r.length<f->O (q++r)=a (q++r))->jo O f q=jo a f q
 |0,_,_=>rfl
 |f+1,q,h=>by
  have d:O q=a q:=by have:=h [] pu;rwa[ev]at this
  rw[jo,jo,DM O a f (q++[false]) (λr c=>by rw[dM];exact h _ (by simpa using c)),DM O a f (q++[true]) (λr c=>by rw[dM];exact h _ (by simpa using c))];unfold nQ;rw[d]
def OA (O:Own)(v:Int):∀(f:Nat) (q r:Pf),r.length<f->O (q++r)=none->(jo (gX O (q++r) v) f q).length=(jo O f q).length+1
 |0,_,r,h,_=>by simp at h
 |f+1,q,r,h,a=>by
  rw[jo,jo,aK,aK,aK,aK];cases r with
  |nil=>
   rw[ev]at a⊢;have l:nQ (gX O q v) q=[(q,v)]:=by unfold nQ gX;rw[av rfl]
   have m:nQ O q=[]:=by unfold nQ;rw[a]
   have i:∀b,jo (gX O q v) f (q++[b])=jo O f (q++[b]):=λb=>DM _ _ f _ λr _=>by unfold gX;rw[au];intro e;have:=iQ List.length e;simp at this
   rw[l,m,i,i];simp;omega
  |cons b r=>
   have u:r.length<f:=by simpa using h
   have g:q++b::r=(q++[b])++r:=(by rw[dM];rfl);have o:nQ (gX O (q++b::r) v) q=nQ O q:=by unfold nQ gX;rw[au];intro e;have:=iQ List.length e;simp at this
   rw[o];have d:=OA O v f (q++[b]) r u (by rw[<-g];exact a);have j:∀c,c≠b->jo (gX O (q++b::r) v) f (q++[c])=jo O f (q++[c]):=λc p=>DM _ _ f _ λs _=>by unfold gX;rw[au];intro e;rw[dM]at e;have:=List.append_cancel_left e;simp at this;exact p this.1
   rw[<-g]at d;cases b
   ·rw[d,j true ut];omega
   rw[d,j false ut];omega
def FB (O:Own)(p:Pf)(v:Int)(a:p.length<=32)(h:O p=none):(iw (gX O p v)).length=(iw O).length+1:=OA O v 33 [] p pm h
def FC (O:Own)(p:Pf)(v u:Int)(h:O p=some u):(iw (gX O p v)).length=(iw O).length:=by rw[Sd O p v u h,cY]
def vV(O:Own)(a:Nat):Nat->Option Int
 |0=>O []
 |n+1=>match O (cV a (n+1))with
  |some v=>some v
  |none=>vV O a n
def GY (O:Own)(a:Nat):∀(n:Nat) (v:Int),vV O a n=some v->∃k,k<=n/\O (cV a k)=some v/\∀j,k<j->j<=n->O (cV a j)=none
 |0,v,h=>⟨0,bm _,h,λj d c=>pm⟩
 |n+1,v,h=>by
  rw[vV]at h;cases e:O (cV a (n+1))with
  |some u=>rw[e]at h;exact ⟨n+1,bm _,by rw[e];exact h,λj d c=>pm⟩
  |none=>
   rw[e]at h;obtain ⟨k,d,c,f⟩:=GY O a n v h;refine ⟨k,pm,c,λj g i=>?_⟩;by_cases q:j=n+1
   ·subst q;exact e
   exact f j g pm
structure NS where
 h:Lb
 c:Lb
 k:Lb
 n:Nat
structure NS.ok(x:NS):Prop where
 h:x.h.length=32
 c:x.c.length=32
 n:x.n<=1000
end
end Go.Proofs.YtmomfbkpniblgaaGreatDoor
