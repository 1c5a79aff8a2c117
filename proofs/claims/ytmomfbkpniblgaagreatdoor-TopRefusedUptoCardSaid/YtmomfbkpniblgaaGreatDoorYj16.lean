/- A part of this claim's proof. -/
import Derived.Test.YtmomfbkpniblgaaGreatDoorYj06
import Derived.Test.YtmomfbkpniblgaaGreatDoorYj09
import Derived.Test.YtmomfbkpniblgaaGreatDoorYj13
import Derived.WalkKit
import Derived.Deep.RegionLaw
import Derived.Lib.SliceRun
set_option linter.all false
set_option maxHeartbeats 2000000
set_option maxRecDepth 20000
namespace Go.Proofs.YtmomfbkpniblgaaGreatDoor
open Go.Proofs.Tryz
variable {a:Act}{G:Ln}{D:Nat}{o:Oper}{t:TypeId}{w w' x y:World}
section
open Go.RowKit Top
structure Bg where
 s:Nat
 x:NS
 own:af
 peer:af
 aD:af
 once:af
 id:Nat
def ptr(b:Nat):Value:= .pointer (some ⟨b,0,none⟩)
attribute [go_sem] ptr S
def dO(o:Option Nat):Value:= .pointer (o.map λb=>⟨b,0,none⟩)
def tZ(b:Bg):Lv:=[hJ b.s,S b.x.h,S b.x.c,S b.x.k, .int .u64 b.x.n]++[.int .i64 b.s,S b.own,S b.peer,S b.aD,S b.once, .int .u32 b.id]
abbrev Bu:=Int×Nat×(Nat->Option Int)
structure SA where
 se:Nat
 pr:Nat
 wn:Nat
def Y6(a:SA)(s:Se):Lv:=[ptr a.pr, .int .i64 s.ae, .int .u32 s.fy, .int .u32 s.cu]
def PL(a:SA)(s:Se):Lv:=[ptr a.wn,S s.send,S s.recv, .int .i64 s.ae, .int .i64 s.born, .int .i64 s.aG, .bool s.first]
structure dN(w:World)(a:SA)(s:Se):Prop where
 se:ab w a.se 191 (Y6 a s)
 pr:ab w a.pr 248 (PL a s)
 wn:gH w a.wn (s.next:Int) s.bits
def SA.fp(a:SA):Ln:=[a.se,a.pr,a.wn]
def fL(w:World):Option SA->Option Se->Prop
 |none,none=>True
 |some a,some s=>dN w a s
 |_,_=>False
def dX(a:Option SA):Ln:=match a with
 |none=>[]
 |some a=>a.fp
structure PA where
 pe:Nat
 tm:Nat
 waits:Value
 begun:Option Nat
 aN:Option SA
 aL:Option SA
 next:Option SA
def PA.fp(a:PA):Ln:=[a.pe,a.tm]++a.waits.ownBlock.toList++a.begun.toList++dX a.aN++dX a.aL++dX a.next
def qw(D:Nat)(a:PA)(p:Pe Bg):Lv:=[ptr D,ptr a.tm, .int .i64 p.number,S p.ag,S p.aD, .int .u32 p.at_, .int .i64 p.dj, .int .i64 p.br, .bool p.stamped, .int .i64 p.sec, .int .i64 p.nano,
 S p.ew, .int .i64 p.eQ,a.waits,dO a.begun, .int .u32 p.dp,S p.fo,dO (a.aN.map SA.se),dO (a.aL.map SA.se),dO (a.next.map SA.se)]
def ik(t:Ti):Tm:=⟨t.iC,(t.tries:Int),(t.last:Int),t.jR,(t.since:Int)⟩
def nF(w:World):Option Nat->Option Bg->Prop
 |none,none=>True
 |some a,some b=>ab w a 312 (tZ b)
 |_,_=>False
def kT(w:World)(v:Value)(l:List af):Prop:=aZ w 9 1 v l.length (l.map S)
def oN(a b:Option SA):Prop:=∀x∈dX a,x∉dX b
structure eV(w:World)(D:Nat)(a:PA)(p:Pe Bg):Prop where
 pe:ab w a.pe 123 (qw D a p)
 tm:dS w a.tm (ik p.tm)
 waits:kT w a.waits p.waits
 begun:nF w a.begun p.begun
 aN:fL w a.aN p.aN
 aL:fL w a.aL p.aL
 next:fL w a.next p.next
 a1:oN a.aL a.aN
 a2:oN a.next a.aN
 a3:oN a.next a.aL
structure DA where
 dev:Nat
 aI:Value
 tb:Nat
 bk:Nat
 mp:Nat
 out:Value
 aE:Value
def DA.fp(a:DA):Ln:=[a.dev,a.bk,a.mp]++a.out.ownBlock.toList++a.aE.ownBlock.toList
def sM(a:DA)(d:Dv Bu):Lv:=[.int .u32 d.here,S d.own,S d.ag,S d.an, .int .i64 d.aj, .int .u64 d.fresh,S d.bt, .int .u32 d.index, .int .i64 d.dr, .int .i64 d.now, .bool d.busy,a.aI,ptr a.tb,ptr a.bk,a.out,a.aE]
def dz(g:Gr):Lv:=[.int .u32 g.src, .int .u32 g.dst,S g.text]
def nZ(p:Pk):Lv:=[.int .i64 p.peer, .int .u32 p.src,S p.text]
def eU(w:World)(v:Value)(l:List Gr):Prop:=aZ w 41 3 v l.length (l.flatMap dz)
def iI(w:World)(v:Value)(l:List Pk):Prop:=aZ w 54 3 v l.length (l.flatMap nZ)
structure cZ(w:World)(a:DA)(d:Dv Bu):Prop where
 dv:ab w a.dev 102 (sM a d)
 out:eU w a.out d.out
 aE:iI w a.aE d.aE
 tb:∃O,TB 0 w a.tb O/\∀x,x<4294967296->jx O x 33=(d.fB x).map Int.ofNat
 bk:lV w a.bk a.mp d.bk.1 d.bk.2.1 d.bk.2.2
def dN.only {a:SA}{s:Se}(h:dN w a s)(g:aC w w' G)(c:∀b∈a.fp,b∉G):dN w' a s:=
 ⟨g.bu h.se (c _ (by simp[SA.fp])),g.bu h.pr (c _ (by simp[SA.fp])),g.obj h.wn (c _ (by simp[SA.fp]))⟩
def fL.only {a:Option SA}{s:Option Se}(h:fL w a s)(g:aC w w' G)(c:∀b∈dX a,b∉G):fL w' a s:=by
 cases a with
 |none=>cases s with
  |none=>trivial
  |some s=>exact h.elim
 |some a=>cases s with
  |none=>exact h.elim
  |some s=>exact dN.only h g c
def nF.only {a:Option Nat}{s:Option Bg}(h:nF w a s)(g:aC w w' G)(c:∀b∈a.toList,b∉G):nF w' a s:=by
 cases a with
 |none=>cases s with
  |none=>trivial
  |some s=>exact h.elim
 |some a=>cases s with
  |none=>exact h.elim
  |some s=>exact g.bu h (c _ pu)
def eV.only {a:PA}{p:Pe Bg}(h:eV w D a p)(g:aC w w' G)(d:∀b∈a.fp,b∉G):eV w' D a p:=
 ⟨g.bu h.pe (d _ (by simp[PA.fp])),g.obj h.tm (d _ (by simp[PA.fp])),h.waits.only g (λk e=>d _ (by simp[PA.fp,e])),h.begun.only g (λb c=>d _ (by simp[PA.fp]at c⊢;simp[c])),
  h.aN.only g (λb c=>d _ (by simp[PA.fp,c])),h.aL.only g (λb c=>d _ (by simp[PA.fp,c])),h.next.only g (λb c=>d _ (by simp[PA.fp,c])),h.a1,h.a2,h.a3⟩
def eV.new {a:PA}{p:Pe Bg}(h:eV w D a p)(g:w.grownBy w' none):eV w' D a p:=h.only (aC.new g []) pu
def dS.kind {b:Nat}{t:Tm}(h:dS w b t):cD w b=some 187:=by unfold cD;rw[h]
def gH.kind {b:Nat}{n:Int}{m:Nat}(h:gH w b n m):cD w b=some 377:=by unfold cD;rw[h]
def iX(k:Option TypeId):Prop:=k=some 123\/k=some 187\/k=some 9\/k=some 312\/k=some 191\/k=some 248\/k=some 377
def jM(k:Option TypeId):Prop:=k=some 102\/k=some 41\/k=some 54\/k=some 184\/k=none
def Ij {k:Option TypeId}(h:iX k)(g:jM k):False:=by rcases h with rfl|rfl|rfl|rfl|rfl|rfl|rfl<;>rcases g with e|e|e|e|e<;>revert e<;>decide
def dN.kinds {a:SA}{s:Se}(h:dN w a s):∀b∈a.fp,iX (cD w b)/\b<w.heap.size:=by
 intro b c;simp only[SA.fp,bp,dD,dH]at c;rcases c with rfl|rfl|rfl
 ·exact ⟨by rw[h.se.kind];simp[iX],h.se.lt⟩
 ·exact ⟨by rw[h.pr.kind];simp[iX],h.pr.lt⟩
 exact ⟨by rw[h.wn.kind];simp[iX],kE h.wn⟩
def fL.kinds {a:Option SA}{s:Option Se}(h:fL w a s):∀b∈dX a,iX (cD w b)/\b<w.heap.size:=by
 cases a with
 |none=>simp[dX]
 |some a=>cases s with
  |none=>exact h.elim
  |some s=>exact dN.kinds h
def eV.kinds {a:PA}{p:Pe Bg}(h:eV w D a p):∀b∈a.fp,iX (cD w b)/\b<w.heap.size:=by
 intro b c;simp only[PA.fp,bG,bp,dD,dH]at c;rcases c with((((c|c)|c)|c)|c)|c
 ·rcases c with rfl|rfl
  ·exact ⟨by rw[h.pe.kind];simp[iX],h.pe.lt⟩
  exact ⟨by rw[h.tm.kind];simp[iX],kE h.tm⟩
 ·have:=h.waits.kind b (by simpa using c);exact ⟨by rw[this.1];simp[iX],this.2⟩
 ·cases hg:a.begun with
  |none=>rw[hg]at c;simp at c
  |some g=>
   rw[hg]at c;obtain rfl:b=g:=by simpa using c
   have d:=h.begun;rw[hg]at d;cases hp:p.begun with
   |none=>rw[hp]at d;exact d.elim
   |some x=>rw[hp]at d;exact ⟨by rw[ab.kind d];simp[iX],ab.lt d⟩
 ·exact h.aN.kinds b c
 ·exact h.aL.kinds b c
 exact h.next.kinds b c
def cZ.kinds {a:DA}{d:Dv Bu}(h:cZ w a d):∀b∈a.fp,jM (cD w b)/\b<w.heap.size:=by
 intro b c;simp only[DA.fp,bG,bp,dD,dH]at c;rcases c with(c|c)|c
 ·obtain ⟨D,e,f,j,k⟩:=h.bk;rcases c with rfl|rfl|rfl
  ·exact ⟨by rw[h.dv.kind];simp[jM],h.dv.lt⟩
  ·exact ⟨by unfold cD;rw[e];simp[jM],kE e⟩
  obtain ⟨i,g,hm,_⟩:=f;exact ⟨by unfold cD;rw[hm];simp[jM],kE hm⟩
 ·have:=h.out.kind b (by simpa using c);exact ⟨by rw[this.1];simp[jM],this.2⟩
 have:=h.aE.kind b (by simpa using c);exact ⟨by rw[this.1];simp[jM],this.2⟩
def TB.only {f:Nat}{O:Own}(h:TB 0 w f O)(g:aC w w' G)(r:∀b∈G,∀o,w.heap[b]?=some o->¬nE o):TB 0 w' f O:=by
 obtain ⟨N,M,V,T,k,l,m⟩:=h;refine ⟨N,M,V,⟨T.root,T.inj,T.pre,T.len,T.mark,T.val,λp b n=>?_⟩,k,l,m⟩;have c:=T.bu p b n;obtain ⟨o,i,j⟩:=c.DD;have q:b∉G:=λe=>r b e o i j;unfold fk at c⊢;split at c<;>rename_i d<;>first|rw[av d]|rw[au d]
 all_goals exact g.obj c q
def lV.only {a b:Nat}{c:Int}{n:Nat}{m:Nat->Option Int}(h:lV w a b c n m)(g:aC w w' G)(k:a∉G)(l:b∉G):lV w' a b c n m:=by obtain ⟨D,f,⟨e,d,hm,p⟩,i,j⟩:=h;exact ⟨D,g.obj f k,⟨e,d,g.obj hm l,p⟩,i,j⟩
def mr {b:Nat}(h:∀t,cD w b=some t->t≠181/\t≠179):∀o,w.heap[b]?=some o->¬nE o:=by
 rintro o c ⟨d,f,rfl|rfl⟩
 ·exact (h _ (by unfold cD;rw[c])).1 rfl
 exact (h _ (by unfold cD;rw[c])).2 rfl
def jM.tp {b:Nat}(h:jM (cD w b)):∀o,w.heap[b]?=some o->¬nE o:=mr λt c=>by rw[c]at h;rcases h with e|e|e|e|e<;>first|(obtain rfl:=aH e;decide)|cases e
def iX.tp {b:Nat}(h:iX (cD w b)):∀o,w.heap[b]?=some o->¬nE o:=mr λt c=>by rw[c]at h;rcases h with e|e|e|e|e|e|e<;>(obtain rfl:=aH e;decide)
def cZ.only {a:DA}{d:Dv Bu}(h:cZ w a d)(g:aC w w' G)(c:∀b∈a.fp,b∉G)(i:∀b∈G,∀o,w.heap[b]?=some o->¬nE o):cZ w' a d:=
 ⟨g.bu h.dv (c _ (by simp[DA.fp])),h.out.only g (λk e=>c _ (by simp[DA.fp,e])),h.aE.only g (λk e=>c _ (by simp[DA.fp,e])),h.tb.imp λO f=>⟨f.1.only g i,f.2⟩,h.bk.only g (c _ (by simp[DA.fp])) (c _ (by simp[DA.fp]))⟩
def cZ.new {a:DA}{d:Dv Bu}(h:cZ w a d)(g:w.grownBy w' none):cZ w' a d:=h.only (aC.new g []) pu pu
def cZ.peer {a:DA}{d:Dv Bu}(h:cZ w a d)(g:aC w w' G)(e:∀b∈G,iX (cD w b)):cZ w' a d:=
 h.only g (λb c f=>Ij (e b f) (h.kinds b c).1) (λb c=>(e b c).tp)
def eV.device {a:PA}{p:Pe Bg}(h:eV w D a p)(g:aC w w' G)(e:∀b∈G,jM (cD w b)):eV w' D a p:=
 h.only g λb c d=>Ij (h.kinds b c).1 (e b d)
structure St(x0:World)(A0:DA)(P0:PA)(x:World)(A:DA)(P:PA)(d:Dv Bu)(p:Pe Bg):Prop where
 dv:cZ x A d
 pe:eV x A.dev P p
 e1:A.dev=A0.dev
 e2:A.aI=A0.aI
 e3:A.tb=A0.tb
 e4:A.bk=A0.bk
 e5:A.mp=A0.mp
 e6:P.pe=P0.pe
 e7:P.tm=P0.tm
 only:aC x0 x (A0.fp++P0.fp)
 fa:∀b∈A.fp,b∈A0.fp\/x0.heap.size<=b
 fp:∀b∈P.fp,b∈P0.fp\/x0.heap.size<=b
def St.start {A:DA}{P:PA}{d:Dv Bu}{p:Pe Bg}(h:cZ x A d)(k:eV x A.dev P p):St x A P x A P d p:=
 ⟨h,k,rfl,rfl,rfl,rfl,rfl,rfl,rfl,aC.refl _ _,λb c=>Or.inl c,λb c=>Or.inl c⟩
def St.step {x0}{g A A':DA}{j P P':PA}{d d':Dv Bu}{p p':Pe Bg}(h:St x0 g j x A P d p)(k:St x A P y A' P' d' p'):St x0 g j y A' P' d' p':=
 ⟨k.dv,k.pe,k.e1.trans h.e1,k.e2.trans h.e2,k.e3.trans h.e3,k.e4.trans h.e4,k.e5.trans h.e5,k.e6.trans h.e6,k.e7.trans h.e7,
  h.only.trans k.only (λi c=>by
   rcases bG.1 c with c|c
   ·exact (h.fa i c).imp (λe=>jF _ e) id
   exact (h.fp i c).imp (λe=>nu _ e) id),
  λb f=>(k.fa b f).elim (λe=>h.fa b e) (λe=>Or.inr (bJ h.only.size e)),
  λb f=>(k.fp b f).elim (λe=>h.fp b e) (λe=>Or.inr (bJ h.only.size e))⟩
def St.new {x0}{e A:DA}{f P:PA}{d:Dv Bu}{p:Pe Bg}(h:St x0 e f x A P d p)(g:x.grownBy y none):St x0 e f y A P d p:=
 h.step ⟨h.dv.new g,h.pe.new g,rfl,rfl,rfl,rfl,rfl,rfl,rfl,aC.new g _,λb c=>Or.inl c,λb c=>Or.inl c⟩
def St.device {x0}{e A A':DA}{f P:PA}{d d':Dv Bu}{p:Pe Bg}(h:St x0 e f x A P d p)(k:cZ y A' d')(g:aC x y A.fp)(j:A'.dev=A.dev)(l:A'.aI=A.aI)(m:A'.tb=A.tb)(n:A'.bk=A.bk)(q:A'.mp=A.mp)(r:∀b∈A'.fp,b∈A.fp\/x.heap.size<=b):St x0 e f y A' P d' p:=
 h.step ⟨k,by rw[j];exact h.pe.device g (λb c=>(h.dv.kinds b c).1),j,l,m,n,q,rfl,rfl,g.mono (λi s=>jF _ s),r,λb c=>Or.inl c⟩
def St.peer {x0}{e A:DA}{f P P':PA}{d:Dv Bu}{p p':Pe Bg}(h:St x0 e f x A P d p)(k:eV y A.dev P' p')(g:aC x y P.fp)(j:P'.pe=P.pe)(l:P'.tm=P.tm)(fp:∀b∈P'.fp,b∈P.fp\/x.heap.size<=b):St x0 e f y A P' d p':=
 h.step ⟨h.dv.peer g (λb c=>(h.pe.kinds b c).1),k,rfl,rfl,rfl,rfl,rfl,j,l,g.mono (λi m=>nu _ m),λb c=>Or.inl c,fp⟩
def Ie:(prog.info? 41).map (λi=>(i.zero,i.size,i.bytes))=some (some (.agg #[.int .u32 0, .int .u32 0, .string ⟨#[]⟩]),3,24):=qr
def zy {b:Array Oper}{rest:List Oper}{Q:Exit->Act->World->Prop}(t:TypeId)(e:o.guard=none)(s x:Operand)(v u c:Value) w'
 (g:(Builtin.append_ #[t,t] t #[v,u]).run prog w= .ok c w')
 (f:o.op= .call {callee:= .builtin .append,args:=#[s,x],argTypes:=#[t,t]}) (j:o.type=t) (i:a.eval s=v) (k:a.eval x=u)
 (h:wpList prog b Q rest (a.put o.dst c) w'):wpList prog b Q (o::rest) a w:=by
 refine BX e λK d=>?_;unfold Oper.wp execOp;simp only[f,j,resolve,invoke,builtin,tL,vy,rU,yW,oC,tO,i,k,g];exact d _ _ h
def KQ {g:Nat}{a b c:Value}(h:ab w g t [a,b,c]):∀(j:Nat) (u:Value),[a,b,c][j]?=some u->w.cell? ((⟨g,0,none⟩:Addr).add j)=some u:=λj u d=>by rw[qY,h.cell,ef];exact d
def XT (l:List Gr)(g:Gr):(l++[g]).flatMap dz=l.flatMap dz++dz g:=pu
def Jd w v (l:List Gr)(h:eU w v l)(g:Gr)(b:Nat)(k:ab w b 41 (dz g))(s:l.length<=1000000000):
 ∃c w',(Builtin.append_ #[36,36] 36 #[v, .slice (some ⟨b,0,none⟩) 1 1]).run prog w= .ok c w'/\eU w' c (l++[g])/\w.grownBy w' v.ownBlock/\(c.ownBlock=v.ownBlock\/c.ownBlock=some w.heap.size)/\eU w' v l:=by
 obtain ⟨r,m,n,p,q⟩:=mF Ie;obtain ⟨c,w',d,e,f,i,j⟩:=wE w 36 36 41 r _ 3 24 underlying36 m n p q rfl pm v l.length (l.flatMap dz) h ⟨b,0,none⟩ 1 1 (dz g) rfl (KQ k) (by simp[dz,Value.oneCell',S]) pm (by unfold maxLen;omega) pm;refine ⟨c,w',d,?_,f,i,j⟩;unfold eU;rw[aK,XT];exact e
structure gf(x:World)(A:DA)(y:World)(A':DA)(d':Dv Bu):Prop where
 dv:cZ y A' d'
 only:aC x y A.fp
 e1:A'.dev=A.dev
 e2:A'.aI=A.aI
 e3:A'.tb=A.tb
 e4:A'.bk=A.bk
 e5:A'.mp=A.mp
 fa:∀b∈A'.fp,b∈A.fp\/x.heap.size<=b
def St.sO {x0}{b A A':DA}{c P:PA}{d d':Dv Bu}{p:Pe Bg}(h:St x0 b c x A P d p)(k:gf x A y A' d'):St x0 b c y A' P d' p:=h.device k.dv k.only k.e1 k.e2 k.e3 k.e4 k.e5 k.fa
def cZ.write {A A':DA}{d d':Dv Bu}(h:cZ x A d)(i:Nat)(v:Value)(J:(sM A d).set i v=sM A' d')(r:A'.dev=A.dev)(s:A'.tb=A.tb)(u:A'.bk=A.bk)(z:A'.mp=A.mp)(m:eU x A'.out d'.out)(l:iI x A'.aE d'.aE)(P:d'.fB=d.fB)(c:d'.bk=d.bk):
 cZ (x.setCell ⟨A.dev,i,none⟩ v) A' d'/\aC x (x.setCell ⟨A.dev,i,none⟩ v) [A.dev]:=by
 have g:=aw (ak x (some A.dev)) i v;have e:aC x (x.setCell ⟨A.dev,i,none⟩ v) [A.dev]:=(aC.grown g).mono pu;have f:cD x A.dev=some 102:=h.dv.kind;obtain ⟨D,p,⟨es,a0,q,R⟩,U,b5⟩:=h.bk;have j:∀b,b∈[A.dev]->cD x b=some 102:=λb c=>by simp at c;subst c;exact f
 refine ⟨⟨?_,?_,?_,?_,?_⟩,e⟩
 ·rw[<-J,r];exact h.dv.set i v
 ·exact aZ.only m e (λk f hm=>by have:=(aZ.kind m k f).1;rw[j k hm]at this;exact absurd (aH this) ut)
 ·exact aZ.only l e (λk f hm=>by have:=(aZ.kind l k f).1;rw[j k hm]at this;exact absurd (aH this) ut)
 ·obtain ⟨O,C,I⟩:=h.tb;rw[s,P];exact ⟨O,C.only e (λb c=>mr λt n=>by rw[j b c]at n;cases n;decide),I⟩
 rw[c,u,z];refine h.bk.only e (λhm=>?_) (λhm=>?_)
 ·have:=j _ hm;unfold cD at this;rw[p]at this;exact absurd (aH this) ut
 have:=j _ hm;unfold cD at this;rw[q]at this;cases this
def cZ.put {A:DA}{d d':Dv Bu}(h:cZ x A d)(i:Nat)(v:Value)(g:(sM A d).set i v=sM A d')(k:d'.out=d.out)(j:d'.aE=d.aE)(l:d'.fB=d.fB)(c:d'.bk=d.bk):gf x A (x.setCell ⟨A.dev,i,none⟩ v) A d':=by obtain ⟨e,f⟩:=h.write i v g rfl rfl rfl rfl (by rw[k];exact h.out) (by rw[j];exact h.aE) l c;exact ⟨e,f.mono (by simp[DA.fp]),rfl,rfl,rfl,rfl,rfl,λb c=>Or.inl c⟩
def cZ.grown {A:DA}{d:Dv Bu}(h:cZ x A d){v:Value}(s:∀k,v.ownBlock=some k->cD x k=some t)(g:x.grownBy y v.ownBlock)(i:t=41\/t=54)(r:eU y A.out d.out)(q:iI y A.aE d.aE):cZ y A d:=by
 have e:aC x y v.ownBlock.toList:=aC.grown g;have c:∀b,b∈v.ownBlock.toList->cD x b=some t:=λb f=>s b (by simpa using f);obtain ⟨D,l,⟨J,I,m,u⟩,z,C⟩:=h.bk;refine ⟨e.bu h.dv (λhm=>?_),r,q,?_,h.bk.only e (λhm=>?_) (λhm=>?_)⟩
 ·have:=c _ hm;rw[h.dv.kind]at this;rcases i with rfl|rfl<;>exact absurd (aH this) ut
 ·obtain ⟨O,n,p⟩:=h.tb;exact ⟨O,n.only e (λb f=>mr λP j=>by rw[c b f]at j;cases j;rcases i with rfl|rfl<;>decide),p⟩
 ·have:=c _ hm;unfold cD at this;rw[l]at this;rcases i with rfl|rfl<;>exact absurd (aH this) ut
 have:=c _ hm;unfold cD at this;rw[m]at this;cases this
def zv {K:Value->World->Prop}(t:TypeId)(s x:Operand)(v u b:Value) w'
 (d:(Builtin.append_ #[t,t] t #[v,u]).run prog w= .ok b w')
 (c:o.op= .call {callee:= .builtin .append,args:=#[s,x],argTypes:=#[t,t]}) (f:o.type=t) (e:a.eval s=v) (g:a.eval x=u)
 (h:K b w'):gD prog K ((execOp a.eval o).run prog w):=by
 unfold execOp;simp only[c,f,resolve,invoke,builtin,tL,vy,rU,yW,oC,tO,e,g,d];exact h
def xF(B:Nat)(aN:Value)(l:List Gr):Value->World->Prop:=λv x=>eU x v l/\(v.ownBlock=aN.ownBlock\/∃k,v.ownBlock=some k/\B<=k)
def xF.mono {B:Nat}{aN}{l:List Gr}:∀v x y,xF B aN l v x->x.grownBy y none->xF B aN l v y:=λv x y h g=>⟨aZ.new h.1 g,h.2⟩
def UZ w (A:DA)(t:af):Calls prog 118 #[ptr A.dev, .int .u32 0,S t] w λe y=>e= .returned (.tuple #[])/\w=y:=by unfold S ptr;go_enter func118,ntmps118;go_wp2;go_end0;exact ⟨rfl,rfl⟩
def Va w (A:DA)(d:Dv Bu)(h:cZ w A d)(dst:Nat)(hd:dst≠0)(t:af)(hl:d.out.length<=1000000000):
 Calls prog 118 #[ptr A.dev, .int .u32 dst,S t] w λe y=>e= .returned (.tuple #[])/\∃A',gf w A y A' {d with out:=d.out++[⟨d.here,dst,t⟩]}:=by
 have b4:((dst:Int) !=0)=true:=by rw[dY];omega
 have H:=Hq h;clear h hd;unfold S ptr;go_enter func118,ntmps118;go_wp2_with fail;have a7:∀b∈A.fp,b<w.heap.size:=λb c=>(H.out.kinds b c).2;have a8:=hl;have I:eF 16 13 1002 (λx y=>aC x y A.fp) (λ_ _ x=>cZ x A d) [(12,λm zz=>w.heap.size<=m.g/\ab zz m.g 41 (dz ⟨d.here,dst,t⟩)),(13,λm zz=>(xF w.heap.size A.out (d.out++[⟨d.here,dst,t⟩])) m.v zz)]:=⟨λx y g=>aC.new g _,λx y z g k=>g.trans k (λi q=>Or.inl q),λ_ _ x y h g=>h.new g,⟨λ_ r0 _ _ h g=>⟨h.1,h.2.kept g pu⟩,λ_ r0 a b h g=>(xF.mono) r0.v a b h g,True.intro⟩,λ_=>⟨λ_ r0 _ _ h g=>FP a7 h g,λe=>absurd rfl e,True.intro⟩,λe=>absurd e ut,qr⟩;apply gT I qr qr (H.out);intro u0;iterate 12 (apply aX;rfl;(intro J R x U a0 a1 a2 n l f;first|(go_simp;exact aq)|(have b0:=ab.cell f.dv;go_simp;exact aq));simp only[aA])
 apply jy I (λm=>(λg=> .slice (some ⟨g,0,none⟩) 1 1) m.g) 0 rfl ut
 ·intro J R x U a0 a1 a2 n l f
  go_simp
  exact gp ⟨x.heap.size,undef⟩ (aT _ _ _) ⟨l.size,ab.new _ _ _⟩
 simp only[aA];apply Av I (λm=>m.v) 1 rfl ut
 ·intro J R x U a0 a1 a2 n l f;obtain ⟨b3,P⟩:=n.at (k:=0) (j:=12) rfl qr;generalize (u0 12).g=a5 at*;obtain ⟨v',w1,a',s,a3,C,a9⟩:=Jd x A.out d.out f.out _ a5 P a8;refine zv 36 _ _ _ _ v' w1 a' rfl rfl rfl rfl ?_;refine gq ⟨0,v'⟩ ((aC.grown a3).mono (λi q=>by simp only[DA.fp,bG];exact Or.inl (Or.inr q))) (f.grown (λk r=>(f.out.kind k r).1) a3 (Or.inl rfl) a9 (f.aE.only (aC.grown a3) (λk r hm=>?_))) ⟨s,C.imp id (λe=>⟨_,e,l.size⟩)⟩;have e1:=(f.aE.kind k r).1;rw[(f.out.kind k (by simpa using hm)).1]at e1;exact absurd (aH e1) ut
 simp only[aA];iterate 2 (apply aX;rfl;(intro J R x U a0 a1 a2 n l f;first|(go_simp;exact aq)|(have b0:=ab.cell f.dv;go_simp;exact aq));simp only[aA])
 refine pz ?_;intro x l p n;obtain ⟨b3,P⟩:=n.at (k:=0) (j:=12) rfl;generalize (u0 12).g=a5 at*;have a6:=n.at (k:=1) (j:=13) rfl;generalize (u0 13).v=a4 at*;obtain ⟨s,C⟩:xF w.heap.size A.out (d.out++[⟨d.here,dst,t⟩]) a4 x:=a6;obtain ⟨hD,hO⟩:=cZ.write (A':={A with out:=a4}) (d':={d with out:=d.out++[⟨d.here,dst,t⟩]}) p 14 a4 rfl rfl rfl rfl rfl s p.aE rfl rfl;have k0:x.cell? ⟨A.dev,14,none⟩=some A.out:=ab.cell p.dv 14;have kf:=ab.frozen p.dv 14;obtain ⟨c1,c2,c3,u⟩:=aZ.at s pu;obtain ⟨u,_⟩:=u;rw[aK,tD]at u;subst u;have HD:=Hq hD;have HO:=Hq (l.trans hO (λi q=>Or.inl (by simp at q;simp[DA.fp,q])));have HH:=Hq C;have HR:=Hq p;clear s hD hO P l p C;go_wp2;go_end0;refine ⟨rfl,_,HD.out,HO.out,rfl,rfl,rfl,rfl,rfl,λb c=>?_⟩;simp only[DA.fp,bG,bp,dD,dH]at c⊢;rcases c with(c|c)|c
 ·exact Or.inl (Or.inl (Or.inl c))
 ·rcases HH.out with e|⟨k,e,r⟩
  ·rw[e]at c;exact Or.inl (Or.inl (Or.inr c))
  rw[e]at c;obtain rfl:b=k:=by simpa using c
  exact Or.inr r
 exact Or.inl (Or.inr c)
def CQ w (A:DA)(d:Dv Bu)(h:cZ w A d)(dst:Nat)(t:af)(g:d.out.length<=1000000000):
 Calls prog 118 #[ptr A.dev, .int .u32 dst,S t] w λe y=>e= .returned (.tuple #[])/\∃A',gf w A y A' (d.dt dst t):=by
 by_cases c:dst=0
 ·subst c;refine (UZ w A t).mono ?_;rintro e y ⟨rfl,rfl⟩;exact ⟨rfl,A,h,aC.refl _ _,rfl,rfl,rfl,rfl,rfl,λb f=>Or.inl f⟩
 unfold Dv.dt;rw[au c];exact Va w A d h dst c t g
def kB(w:World)(b:Nat)(t:Ti)(e:Ending)(w':World):Prop:=e= .returned (.int .i64 0)/\dS w' b (ik t)/\w.grownBy w' (some b)
def MP w (b:Nat)(t:Ti)(c:Nat)(h:dS w b (ik t))(d:c<=1099511627776):Calls prog 73 #[.pointer (some ⟨b,0,none⟩), .int .i64 1, .int .i64 c] w (kB w b t.du):=
 abz w b (ik t) c h pm pm
def MN w (b:Nat)(t:Ti)(c:Nat)(h:dS w b (ik t))(d:c<=1099511627776):Calls prog 73 #[.pointer (some ⟨b,0,none⟩), .int .i64 2, .int .i64 c] w (kB w b (t.heard c)):=by
 unfold Ti.heard;cases ho:t.jR with
 |true=>exact abv w b (ik t) c h pm pm ho
 |false=>exact abu w b (ik t) c h pm pm ho
def GR w (b:Nat)(t:Ti)(c:Nat)(h:dS w b (ik t))(d:c<=1099511627776):Calls prog 73 #[.pointer (some ⟨b,0,none⟩), .int .i64 3, .int .i64 c] w (kB w b t.wanted):=
 abB w b (ik t) c h pm pm
def Xi w (b:Nat)(t:Ti)(c:Nat)(h:dS w b (ik t))(f:c<=1099511627776)(g:t.tries<=1000):Calls prog 73 #[.pointer (some ⟨b,0,none⟩), .int .i64 4, .int .i64 c] w (kB w b (t.zB c)):=by
 have:=abt w b (ik t) c h pm pm;have e:wrap64 ((t.tries:Int)+1)=((t.tries+1:Nat):Int):=by rw[qO _ pm];omega
 have d:({ik t with iC:=true,tries:=wrap64 ((ik t).tries+1),last:=(c:Int)}:Tm)=ik (t.zB c):=by show(⟨true,wrap64 ((t.tries:Int)+1),(c:Int),t.jR,(t.since:Int)⟩:Tm)=_;rw[e];rfl
 rw[d]at this;exact this
def MO w (b:Nat)(t:Ti)(c:Nat)(h:dS w b (ik t))(d:c<=1099511627776):Calls prog 73 #[.pointer (some ⟨b,0,none⟩), .int .i64 5, .int .i64 c] w (kB w b t.made):=
 abw w b (ik t) c h pm pm
def Xj w (b:Nat)(t:Ti)(c:Nat)(h:dS w b (ik t))(d:c<=1099511627776):Calls prog 73 #[.pointer (some ⟨b,0,none⟩), .int .i64 6, .int .i64 c] w (kB w b Ti.zero):=
 abA w b (ik t) c h pm pm
def abL w (b:Nat)(t:Ti)(c:Nat)(h:dS w b (ik t))(j:t.last<=1099511627776)(k:t.since<=1099511627776):Calls prog 120 #[.pointer (some ⟨b,0,none⟩), .int .i64 c] w λe w'=>e= .returned (.int .i64 (t.kL c))/\w.grownBy w' none:=by
 refine ax (aby w b (ik t) c h (by show(0:Int)<=t.last;omega) (by show(t.last:Int)<=_;omega) (by show(0:Int)<=t.since;omega) (by show(t.since:Int)<=_;omega)) λw' i=>?_;refine ⟨?_,i⟩;congr 2;unfold JI Ti.kL ik;simp only[Int.natCast_eq_zero];have d:((t.last:Int)+5<=(c:Int))=(t.last+5<=c):=by simp only[eq_iff_iff];omega
 have f:((t.since:Int)+10<=(c:Int))=(t.since+10<=c):=by simp only[eq_iff_iff];omega
 have g:((t.tries:Int)=6)=(t.tries=6):=by simp only[eq_iff_iff];omega
 simp only[d,f,g];split
 ·rfl
 split
 ·split<;>rfl
 split<;>rfl
def Nd {α:Type}{f:α->Lv}(b:∀x,(f x).length=3):∀(l:List α) (i:Nat),(l.flatMap f).take (i*3)=(l.take i).flatMap f
 |[],i=>by simp
 |x::l,0=>by simp
 |x::l,i+1=>by rw[ox,List.take_succ_cons,ox,show(i+1)*3=(f x).length+i*3from by rw[b];omega,List.take_length_add_append,Nd b l i]
def Nc {α:Type}{f:α->Lv}(b:∀x,(f x).length=3):∀(l:List α) (i:Nat),(l.flatMap f).drop (i*3)=(l.drop i).flatMap f
 |[],i=>by simp
 |x::l,0=>by simp
 |x::l,i+1=>by rw[ox,EX,show(i+1)*3=(f x).length+i*3from by rw[b];omega,List.drop_length_add_append,Nc b l i]
def xX {α:Type}{f:α->Lv}(b:∀x,(f x).length=3):∀(l:List α),(l.flatMap f).length=l.length*3
 |[]=>rfl
 |x::l=>by rw[ox,aK,xX b l,b,eI];omega
def ur (g:Gr):(dz g).length=3:=rfl
def Y0 (w:World)(b o c:Nat)(h:TypeId)(e:∀j,j<3->(w.cell? ⟨b,o+j,none⟩).isSome=true)(f:∀j,j<3->w.frozen? ⟨b,o+j,none⟩=false):
 (Builtin.clear_ #[36] h #[.slice (some ⟨b,o,none⟩) 1 c]).run prog w= .ok (.tuple #[]) (w.setCells b o [.int .u32 0, .int .u32 0, .string ⟨#[]⟩]):=by
 have d:=Br (P:=prog) b o [.int .u32 0, .int .u32 0, .string ⟨#[]⟩] 0 w (by simpa using e) (by simpa using f) (by simp[Value.oneCell']);simp only[jY]at d;have g:(Builtin.zeroCells (Value.agg #[.int .u32 0, .int .u32 0, .string ⟨#[]⟩]).cells 1).toList=[.int .u32 0, .int .u32 0, .string ⟨#[]⟩]:=qr
 simp[Builtin.clear_,rV underlying36,g,d]
theorem walk_delete (x:World)(g o b i m:Nat)(c:Lv)(a2:i+1+m<=b)(k:c.length=m*3)(r:∀j u,c[j]?=some u->x.cell? ⟨g,o+(i+1)*3+j,none⟩=some u)(h1:∀u∈c,u.oneCell'=true)
 (s:∀j,j<b*3->(x.cell? ⟨g,o+j,none⟩).isSome=true/\x.frozen? ⟨g,o+j,none⟩=false)
 (d W2:World) (n:d=x.drew.setCells g (o+i*3) c) (p:W2=d.setCells g (o+(i+m)*3) [.int .u32 0, .int .u32 0, .string ⟨#[]⟩])
 (l:∀j,j<b*3->(d.cell? ⟨g,o+j,none⟩).isSome=true/\d.frozen? ⟨g,o+j,none⟩=false):
 Calls prog 75 #[.slice (some ⟨g,o,none⟩) (i+1+m) b, .int .i64 i, .int .i64 (i+1:Nat)] x (λe y=>e= .returned (.slice (some ⟨g,o,none⟩) (i+m) b)/\y=W2):=by
 obtain ⟨A,hA,U⟩:∃A:Addr,(if b=i+1then some (⟨g,o,none⟩:Addr)else some ⟨g,o+(i+1)*3,none⟩)=some A/\Hid (∀t u,c[t]?=some u->x.drew.cell? (A.add t)=some u):=by
  by_cases h:b=i+1
  ·refine ⟨⟨g,o,none⟩,by simp[h],λt u f=>?_⟩;have I:c.length=0:=(by rw[k];omega);rw[List.length_eq_zero_iff.1 I]at f;simp at f
  refine ⟨⟨g,o+(i+1)*3,none⟩,by simp[h],λt u f=>?_⟩;rw[qY];exact r t u f
 obtain ⟨i0,q,a0,v,a1⟩:=mF Ie;have s1:=Hq h1;have s2:Hid (∀t,t<c.length->(x.drew.cell? ⟨g,o+i*3+t,none⟩).isSome=true/\x.drew.frozen? ⟨g,o+i*3+t,none⟩=false):=Hq λt ht=>by rw[k]at ht;have:=s (i*3+t) pm;rw[<-nC]at this;exact this
 have a3:=Y0 d g (o+(i+m)*3) (b-(i+m)) 0 (λj R=>by rw[nC];exact (l _ pm).1) (λj R=>by rw[nC];exact (l _ pm).2);have J:=Hq n;have P:=Hq p;have q1:i+1+m-(i+m)=1:=pm
 have q2:i+1+m-(i+1)=m:=pm
 have q3:i<=b:=pm
 have q4:i+1<=b:=pm
 have q5:i+m<=b:=pm
 have p1:(0:Int)<=(i:Int)+1:=pm
 have p2:(i:Int)+1<=(i:Int)+1+(m:Int):=pm
 have p3:(0:Int)<=(i:Int)+(m:Int):=pm
 have p4:(i:Int)+(m:Int)<=(i:Int)+1+(m:Int):=pm
 have p5:(i:Int)+1+(m:Int)<=(b:Int):=pm
 have p6:¬b=i+m:=pm
 have z:=Hq q;have C:=Hq v;clear s l n p r h1 q a0 v a1;go_enter func75,ntmps75;go_wp2_with fail;go_region_law (refine step_append_room rfl (.tmp 22) (.tmp 25) 36 rfl 41 i0 3 underlying36 z.out C.out g o i b (by simp[Act.eval,Act.put]) A m (b-(i+1)) c (by simp[Act.eval,Act.put]) k U.out s1.out pm s2.out ?_;rw[<-J.out]);go_wp2;go_ret;exact ⟨rfl,P.out.symm⟩
def KS {b:Nat}{c}(h:ab w b t c)(d:Lv)(o:Nat)(f:o+d.length<=c.length):ab (w.setCells b o d) b t (c.take o++d++c.drop (o+d.length)):=by
 rcases yF b d o w c t h with e|e
 ·rwa[cE pp]at e
 omega
def Um x (l:List Gr)(g o b:Nat)(h:eU x (.slice (some ⟨g,o,none⟩) l.length b) l)(i:Nat)(hi:i<l.length):
 Calls prog 75 #[.slice (some ⟨g,o,none⟩) l.length b, .int .i64 i, .int .i64 (i+1:Nat)] x (λe y=>e= .returned (.slice (some ⟨g,o,none⟩) (l.eraseIdx i).length b)/\eU y (.slice (some ⟨g,o,none⟩) (l.eraseIdx i).length b) (l.eraseIdx i)/\x.grownBy y (some g)):=by
 rcases h.2with⟨e,_⟩|⟨g',o',a3,f,e,hg,h3,h4,h5,P⟩
 ·cases e
 injection e with e e1 e2;injection e with e;injection e with e e3;subst e e3 e2;obtain ⟨m,hm⟩:∃m,l.length=i+1+m:=⟨l.length-(i+1),pm⟩;have n:f.toList.length=o+b*3:=by rw[rT];exact h5
 have R:ab x g 41 f.toList:=hg;have a0:ab x.drew g 41 f.toList:=hg;obtain ⟨d,s⟩:=kq ((l.drop (i+1)).flatMap dz);have q:d.length=m*3:=by rw[s,xX ur,aR,hm];congr 1;omega
 have a1:d=(f.toList.drop (o+(i+1)*3)).take (m*3):=by rw[s,<-Nc ur,<-P,List.drop_take,vx];congr 1;rw[hm];omega
 have a2:∀(j:Nat) (u:Value),d[j]?=some u->x.cell? ⟨g,o+(i+1)*3+j,none⟩=some u:=λj u p=>by
  rw[R.cell];rw[a1,lN]at p;split at p
  ·rwa[qL]at p
  cases p
 have h1:∀u∈d,u.oneCell'=true:=λu hu=>by rw[s]at hu;obtain ⟨y,_,hy⟩:=mE.1 hu;simp only[dz,bp,dD,dH]at hy;rcases hy with rfl|rfl|rfl<;>rfl
 have r:=KS a0 d (o+i*3) (by rw[q,n];omega);obtain ⟨L1,v⟩:=kq (f.toList.take (o+i*3)++d++f.toList.drop (o+i*3+d.length));rw[<-v]at r;have k:L1.length=o+b*3:=by rw[v];simp[n,q];omega
 obtain ⟨J,z⟩:=kq (x.drew.setCells g (o+i*3) d);rw[<-z]at r;have U:=KS r [.int .u32 0, .int .u32 0, .string ⟨#[]⟩] (o+(i+m)*3) (by rw[k];simp;omega);obtain ⟨W2,C⟩:=kq (J.setCells g (o+(i+m)*3) [.int .u32 0, .int .u32 0, .string ⟨#[]⟩]);rw[<-C]at U;have there:∀(w:World) (c:Lv),ab w g 41 c->c.length=o+b*3->∀j,j<b*3->(w.cell? ⟨g,o+j,none⟩).isSome=true/\w.frozen? ⟨g,o+j,none⟩=false:=λw c hb hc j p=>by rw[hb.cell,aW pm];exact ⟨rfl,hb.frozen _⟩
 have B:=walk_delete x g o b i m d pm q a2 h1 (there _ _ R n) J W2 z C (there _ _ r k);rw[hm];refine B.mono ?_;rintro e y ⟨rfl,rfl⟩;have I:(l.eraseIdx i).length=i+m:=by rw[List.length_eraseIdx_of_lt hi,hm];omega
 refine ⟨by rw[I],⟨?_,Or.inr ⟨g,o,b,_,rfl,U,by rw[I];omega,h4,?_,?_⟩⟩,?_⟩
 ·rw[xX ur]
 ·simp[k];omega
 ·rw[I,List.eraseIdx_eq_take_drop_succ,qK,<-s,<-Nd ur,<-P];dsimp only;rw[dM,EJ (by rw[aJ,k];omega),Bl (by rw[aR,aJ,k];omega),cE (by rw[aR,aJ,k];omega),v];rw[Bl (by rw[aK,aJ,n,q];omega),cE (by rw[aK,aJ,n,q];omega),EJ (by rw[aJ,n];omega)];congr 1;rw[List.drop_take,ku];congr 1;omega
 rw[C,z];exact qm g _ _ _ _ (qm g _ _ _ _ (aM (ak _ _)))
end
end Go.Proofs.YtmomfbkpniblgaaGreatDoor
