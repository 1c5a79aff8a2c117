/- A part of this claim's proof. -/
import Derived.Test.YtmomfbkpniblgaaGreatDoorYj27
import Derived.Test.YtmomfbkpniblgaaGreatDoorYj30
import Derived.LaidEqlPtr
set_option linter.all false
set_option maxHeartbeats 16000000
set_option maxRecDepth 20000
namespace Go.Proofs.YtmomfbkpniblgaaGreatDoor
open Go.Proofs.Tryz
variable {D K L N aj i m n now src cu:Nat}{x y z:World}
section
open Go.RowKit Top
structure cT(now:Nat)(p:Pe Bg):Prop where
 number:p.number<8
 ag:p.ag.length=32
 aD:p.aD.length=32
 at_:p.at_<4294967296
 dj:p.dj=1\/p.dj=2
 br:p.br=1\/p.br=2
 sec:p.sec<=1099511627776
 nano:p.nano<=999999999
 ew:p.ew=[]\/p.ew.length=16
 eQ:p.eQ<=1099511627896
 kj:p.waits.length<=4
 waits:∀t∈p.waits,t.length<=1004
 dp:p.dp<4294967296
 fo:p.fo.length<=1000
 begun:p.begun.isSome=true->38<=p.fo.length
 aN:∀s,p.aN=some s->iJ now s
 aL:∀s,p.aL=some s->iJ now s
 next:∀s,p.next=some s->iJ now s
 tries:p.tm.tries<=6
 last:p.tm.last<=now
 since:p.tm.since<=now
structure bq(K:Nat)(d:Dv Bu):Prop where
 here:d.here<4294967296
 own:d.own.length=32
 ag:d.ag.length=32
 an:d.an.length=32
 aj:d.aj=1\/d.aj=2
 bt:d.bt.length=32
 now:d.now<=1099511627776
 fresh:d.fresh<=K
 index:d.index<=K
 dr:d.dr<=K
 bk:d.bk.2.1<=K
 jw:0<=d.bk.1/\d.bk.1<=(d.now:Int)
 out:d.out.length<=K
 aE:d.aE.length<=K
 K:K<=100000000
def Pw {P:PA}{p:Pe Bg}(h:eV x D P p):(P.aL=none/\p.aL=none)\/∃a s,P.aL=some a/\p.aL=some s/\dN x a s:=by
 have:=h.aL;cases e1:P.aL with
 |none=>cases e2:p.aL with
  |none=>exact Or.inl ⟨rfl,rfl⟩
  |some s=>rw[e1,e2]at this;exact this.elim
 |some a=>cases e2:p.aL with
  |none=>rw[e1,e2]at this;exact this.elim
  |some s=>rw[e1,e2]at this;exact Or.inr ⟨a,s,rfl,rfl,this⟩
def Mn x (A:DA)(P:PA)(d:Dv Bu)(p:Pe Bg)(h:cZ x A d)(k:eV x A.dev P p)(ok:cT d.now p)(r:d.now<=1099511627776):
 Calls prog 71 #[ptr P.pe] x λe y=>e= .returned (.bool (pA d p))/\x.grownBy y none:=by
 unfold pA ptr;have c0:x.cell? ⟨P.pe,0,none⟩=some (.pointer (some ⟨A.dev,0,none⟩)):=ab.cell k.pe 0;have q:x.cell? ⟨A.dev,9,none⟩=some (.int .i64 d.now):=ab.cell h.dv 9;have c:x.cell? ⟨P.pe,18,none⟩=some (dO (P.aL.map SA.se)):=ab.cell k.pe 18;rcases Pw k with⟨g,f⟩|⟨a,s,g,f,j⟩
 ·rw[g]at c;rw[f];dsimp only;unfold dO at c;simp only[vj]at c;clear h k ok c0 q;go_enter func71,ntmps71;go_wp2_with fail
  go_quiet (fail)
  go_wp2;go_ret;exact ⟨rfl,iT (ak _ _) _⟩
 rw[g]at c;rw[f];dsimp only;unfold dO at c;simp only[qP]at c;have l:=j.pr;have o:=λn:Nat=>Eb (x.drewN n) a s l (bJ (ok.aL s f).born r) d.now;have t:x.cell? ⟨a.se,0,none⟩=some (.pointer (some ⟨a.pr,0,none⟩)):=ab.cell j.se 0;clear h k ok j l;generalize s.over d.now=b at*;go_enter func71,ntmps71;go_wp2_with fail
 go_quiet (first|(go_at_call 116;exact Calls.quiet_of_same ((o _).mono (λe u h=>⟨h.1,h.2.symm⟩))))
 go_wp2;go_ret;exact ⟨rfl,iT (ak _ _) _⟩
def mq(a c t:af):af:=tg a t++(if c=[]then cI 16 else fx c (tg a t) 16)
def b8 (a c t:af):(mq a c t).length=t.length+32:=by
 unfold mq tg;rw[aK,aK,Dh];split
 ·simp[cI]
 rw[uc _ _ _ pm]
def Ma w (a c t:af)(d:a.length=32)(b:c=[]\/c.length=16)(f:t.length<=140737488355000):Calls prog 225 #[S a,S c,S t] w (Grown (.tuple #[S (mq a c t), .int .i64 0]) w):=by
 unfold mq;rcases b with rfl|b
 ·rw[av rfl];exact Vq w a t d f
 rw[au (by intro e;rw[e]at b;simp at b)];exact Vs w a c t d b f
def Mg x (A:DA)(P:PA)(d:Dv Bu)(p:Pe Bg)(h:cZ x A d)(k:eV x A.dev P p)(ok:cT d.now p)(t:af)(l:t.length<=2000):
 Calls prog 172 #[ptr P.pe,S t] x (Grown (S (mq p.ag (if p.eQ<d.now then []else p.ew) t)) x):=by
 have c0:x.cell? ⟨P.pe,0,none⟩=some (.pointer (some ⟨A.dev,0,none⟩)):=ab.cell k.pe 0;have j:x.cell? ⟨A.dev,9,none⟩=some (.int .i64 d.now):=ab.cell h.dv 9;have g:x.cell? ⟨P.pe,3,none⟩=some (.string ⟨p.ag.toArray⟩):=ab.cell k.pe 3;have e:x.cell? ⟨P.pe,11,none⟩=some (.string ⟨p.ew.toArray⟩):=ab.cell k.pe 11;have f:x.cell? ⟨P.pe,12,none⟩=some (.int .i64 p.eQ):=ab.cell k.pe 12;by_cases a:p.eQ<d.now
 ·have M:=λW:World=>Ma W p.ag [] t ok.ag (Or.inl rfl) pm;rw[av a];have c:decide (p.eQ<d.now)=true:=tK a;generalize mq p.ag [] t=V at*;clear ok k h a;unfold S ptr at*;go_enter func172,ntmps172;go_wp2_with fail
  go_quiet (fail)
  go_wp2_with fail;refine ax (M _) λy b=>?_;go_wp2;go_ret;exact ⟨rfl,ai (iT (ak _ _) _) b⟩
 have M:=λW:World=>Ma W p.ag p.ew t ok.ag ok.ew pm;rw[au a];have c:decide (p.eQ<d.now)=false:=BQ a;generalize mq p.ag p.ew t=V at*;clear ok k h a;unfold S ptr at*;go_enter func172,ntmps172;go_wp2_with fail
 go_quiet (fail)
 go_wp2_with fail;refine ax (M _) λy b=>?_;go_wp2;go_ret;exact ⟨rfl,ai (iT (ak _ _) _) b⟩
def ir(x0:World)(a:DA)(b:PA)(v:Value)(d:Dv Bu)(p:Pe Bg)(e:Ending)(y:World):Prop:=e= .returned v/\∃A P,St x0 a b y A P d p
def VT x0 x (c A:DA)(f P:PA)(d:Dv Bu)(p:Pe Bg)(h:St x0 c f x A P d p)(ok:cT d.now p)(K:Nat)(g:bq K d)(t:af)(s:t.length<=2000):
 Calls prog 181 #[ptr P.pe,S t] x (ir x0 c f (.tuple #[]) (d.dt p.at_ (mq p.ag (if p.eQ<d.now then []else p.ew) t)) p):=by
 have l:=λ(W:World) (k:St x0 c f W A P d p)=>Mg W A P d p k.dv k.pe ok t s;have j:=λ(W:World) (k:St x0 c f W A P d p)=>CQ W A d k.dv p.at_ (mq p.ag (if p.eQ<d.now then []else p.ew) t) (by have:=g.out;have:=g.K;omega);have H:=Hq h;unfold ir;generalize mq p.ag (if p.eQ<d.now then []else p.ew) t=V at*;clear ok g h;unfold S ptr at*;go_enter func181,ntmps181;go_wp2_with fail;refine fe 11 qr qr ?_;iterate 10 (apply rn;(intro x b;first|(go_simp;exact aq)|(have a:=H.out.new b;have v:=ab.cell a.pe.pe;go_simp;exact aq));simp only[aA])
 apply rn
 ·intro x b;have a:=H.out.new b
  go_simp
  refine ax (l _ a) λy u=>?_;exact gv u
 simp only[aA];refine rz ?_;intro x b;have a:=H.out.new b;have B:=j x a;have q:=Hq a;clear j l a b;go_wp2_with fail;refine B.mono ?_;rintro e y ⟨rfl,o,r⟩;go_wp2;go_end0;exact ⟨rfl,o,P,q.out.sO r⟩
def PA.slot(a:PA):Sl->Option SA
 | .aL=>a.aL
 | .aN=>a.aN
 | .next=>a.next
def eV.slot {P:PA}{p:Pe Bg}(h:eV x D P p)(k:Sl):fL x (P.slot k) (p.slot k):=by
 cases k
 ·exact h.aL
 ·exact h.aN
 exact h.next
def QE (P:PA)(k:Sl):∀b∈dX (P.slot k),b∈P.fp:=λb a=>by cases k<;>simp[PA.slot,PA.fp]at a⊢<;>simp[a]
def eV.apart {P:PA}{p:Pe Bg}(h:eV x D P p){k j:Sl}(d:k≠j):∀b∈dX (P.slot k),b∉dX (P.slot j):=by intro b a c;cases k<;>cases j<;>first|exact absurd rfl d|exact h.a1 b a c|exact h.a1 b c a|exact h.a2 b a c|exact h.a2 b c a|exact h.a3 b a c|exact h.a3 b c a
def J4 {a:SA}{s:Se}(h:dN x a s):∀b∈[a.pr,a.wn],cD x b=some 248\/cD x b=some 377:=by
 intro b c;simp only[bp,dD,dH]at c;rcases c with rfl|rfl
 ·exact Or.inl h.pr.kind
 exact Or.inr h.wn.kind
def St.slot {x0}{C A:DA}{I P:PA}{d:Dv Bu}{p:Pe Bg}(h:St x0 C I x A P d p)(k:Sl){a:SA}{s s':Se}(o:P.slot k=some a)(hp:p.slot k=some s)(u:dN y a s')(g:aC x y [a.pr,a.wn]):St x0 C I y A P d (p.put k s'):=by
 have hS:dN x a s:=by have:=h.pe.slot k;rw[o,hp]at this;exact this
 have hk:=J4 hS;have J:∀b∈[a.pr,a.wn],b∈dX (P.slot k):=λb c=>by rw[o];simp only[dX,SA.fp,bp,dD,dH]at c⊢;rcases c with e|e<;>simp[e]
 have q:∀(b:Nat) (t:TypeId),cD x b=some t->t≠248->t≠377->b∉[a.pr,a.wn]:=λb t c R U hm=>by
  rcases hk b hm with e|e<;>rw[e]at c<;>have:=aH c
  ·exact R this.symm
  exact U this.symm
 have f:∀j,k≠j->fL y (P.slot j) (p.slot j):=λj hj=>(h.pe.slot j).only g (λb c hm=>h.pe.apart hj b (J b hm) c);have w:kT y P.waits p.waits:=h.pe.waits.only g (λb c=>q b _ (h.pe.waits.kind b c).1 ut ut);have c:nF y P.begun p.begun:=h.pe.begun.only g (λb c=>by
  have l:=h.pe.begun;cases e:P.begun with
  |none=>rw[e]at c;simp at c
  |some g=>
   rw[e]at l c;obtain rfl:b=g:=by simpa using c
   cases e2:p.begun with
   |none=>rw[e2]at l;exact l.elim
   |some z=>rw[e2]at l;exact q b _ (ab.kind l) ut ut)
 have r:ab y P.pe 123 (qw A.dev P p):=g.bu h.pe.pe (q _ _ h.pe.pe.kind ut ut);have v:dS y P.tm (ik p.tm):=g.obj h.pe.tm (q _ _ h.pe.tm.kind ut ut);refine h.peer (P':=P) ?_ (g.mono (λb c=>QE P k b (J b c))) rfl rfl (λb c=>Or.inl c);cases k with
 |aL=>exact ⟨r,v,w,c,f .aN ut,by show fL y P.aL (some s');rw[show P.aL=some a from o];exact u,f .next ut,h.pe.a1,h.pe.a2,h.pe.a3⟩
 |aN=>exact ⟨r,v,w,c,by show fL y P.aN (some s');rw[show P.aN=some a from o];exact u,f .aL ut,f .next ut,h.pe.a1,h.pe.a2,h.pe.a3⟩
 |next=>exact ⟨r,v,w,c,f .aN ut,f .aL ut,by show fL y P.next (some s');rw[show P.next=some a from o];exact u,h.pe.a1,h.pe.a2,h.pe.a3⟩
def St.timer {x0}{q A:DA}{r P:PA}{d:Dv Bu}{p:Pe Bg}(h:St x0 q r x A P d p){t:Ti}(w:dS y P.tm (ik t))(g:x.grownBy y (some P.tm)):St x0 q r y A P d {p with tm:=t}:=by
 have j:aC x y [P.tm]:=(aC.grown g).mono pu;have v:=h.pe.tm.kind;have f:∀(b:Nat) (t:TypeId),cD x b=some t->t≠187->b∉[P.tm]:=λb t c u hm=>by simp at hm;subst hm;rw[v]at c;exact u (aH c).symm
 have o:∀k,fL y (P.slot k) (p.slot k):=λk=>(h.pe.slot k).only j (λb c=>by
  have:=h.pe.slot k;cases e:P.slot k with
  |none=>rw[e]at c;simp[dX]at c
  |some a=>cases e2:p.slot k with
   |none=>rw[e,e2]at this;exact this.elim
   |some s=>
    rw[e,e2]at this;rw[e]at c;simp only[dX,SA.fp,bp,dD,dH]at c;rcases c with rfl|rfl|rfl
    ·exact f _ _ this.se.kind ut
    ·exact f _ _ this.pr.kind ut
    exact f _ _ this.wn.kind ut)
 have c:nF y P.begun p.begun:=h.pe.begun.only j (λb c=>by
  have l:=h.pe.begun;cases e:P.begun with
  |none=>rw[e]at c;simp at c
  |some g=>
   rw[e]at l c;obtain rfl:b=g:=by simpa using c
   cases e2:p.begun with
   |none=>rw[e2]at l;exact l.elim
   |some z=>rw[e2]at l;exact f b _ (ab.kind l) ut)
 exact h.peer (P':=P) ⟨j.bu h.pe.pe (f _ _ h.pe.pe.kind ut),w,h.pe.waits.only j (λb c=>f b _ (h.pe.waits.kind b c).1 ut),c,o .aN,o .aL,o .next,h.pe.a1,h.pe.a2,h.pe.a3⟩ (j.mono (λb c=>by simp at c;simp[PA.fp,c])) rfl rfl (λb c=>Or.inl c)
def St.write {x0}{u A:DA}{q P P':PA}{d:Dv Bu}{p p':Pe Bg}(h:St x0 u q x A P d p)(i:Nat)(v:Value)(hc:(qw A.dev P p).set i v=qw A.dev P' p')(w:P'.pe=P.pe)(l:P'.tm=P.tm)(a6:p'.tm=p.tm)
 (I:kT x P'.waits p'.waits) (c:nF x P'.begun p'.begun) (ho:fL x P'.aN p'.aN) (f:fL x P'.aL p'.aL) (hn:fL x P'.next p'.next) (J:oN P'.aL P'.aN) (R:oN P'.next P'.aN) (U:oN P'.next P'.aL) (a4:∀b∈P'.fp,b∈P.fp\/x.heap.size<=b\/b∈q.fp\/x0.heap.size<=b):
 St x0 u q (x.setCell ⟨P.pe,i,none⟩ v) A P' d p':=by
 have g:=aw (ak x (some P.pe)) i v;have j:aC x (x.setCell ⟨P.pe,i,none⟩ v) [P.pe]:=(aC.grown g).mono pu;have C:=h.pe.pe.kind;have k:∀(b:Nat) (t:TypeId),cD x b=some t->t≠123->b∉[P.pe]:=λb t c h1 hm=>by simp at hm;subst hm;rw[C]at c;exact h1 (aH c).symm
 have r:∀(a:Option SA) (s:Option Se),fL x a s->fL (x.setCell ⟨P.pe,i,none⟩ v) a s:=λa s f=>f.only j (λb c=>by
  cases a with
  |none=>simp[dX]at c
  |some a=>cases s with
   |none=>exact f.elim
   |some s=>
    simp only[dX,SA.fp,bp,dD,dH]at c;rcases c with rfl|rfl|rfl
    ·exact k _ _ (dN.se f).kind ut
    ·exact k _ _ (dN.pr f).kind ut
    exact k _ _ (dN.wn f).kind ut)
 have a0:nF (x.setCell ⟨P.pe,i,none⟩ v) P'.begun p'.begun:=c.only j (λb o=>by
  cases e:P'.begun with
  |none=>rw[e]at o;simp at o
  |some g=>
   rw[e]at c o;obtain rfl:b=g:=by simpa using o
   cases l:p'.begun with
   |none=>rw[l]at c;exact c.elim
   |some z=>rw[l]at c;exact k b _ (ab.kind c) ut)
 have a5:eV (x.setCell ⟨P.pe,i,none⟩ v) A.dev P' p':=⟨by rw[<-hc,w];exact h.pe.pe.set i v,by rw[l,a6];exact j.obj h.pe.tm (k _ _ h.pe.tm.kind ut),aZ.only I j (λb c=>k b _ (aZ.kind I b c).1 ut),a0,r _ _ ho,r _ _ f,r _ _ hn,J,R,U⟩;exact ⟨h.dv.peer j (λb c=>by simp at c;subst c;rw[C];simp[iX]),a5,h.e1,h.e2,h.e3,h.e4,h.e5,w.trans h.e6,l.trans h.e7,
  h.only.trans j (λb c=>by simp at c;subst c;exact (h.fp P.pe (by simp[PA.fp])).imp (λe=>nu _ e) id),
  h.fa,λb c=>by
   rcases a4 b c with e|e|e|e
   ·exact h.fp b e
   ·exact Or.inr (bJ h.only.size e)
   ·exact Or.inl e
   exact Or.inr e⟩
def St.put {x0}{c A:DA}{e P:PA}{d:Dv Bu}{p p':Pe Bg}(h:St x0 c e x A P d p)(i:Nat)(v:Value)(f:(qw A.dev P p).set i v=qw A.dev P p')(l:p'.tm=p.tm)(o:p'.waits=p.waits)(a:p'.begun=p.begun)(j:p'.aN=p.aN)(k:p'.aL=p.aL)(g:p'.next=p.next):St x0 c e (x.setCell ⟨P.pe,i,none⟩ v) A P d p':=
 h.write (P':=P) i v f rfl rfl l (by rw[o];exact h.pe.waits) (by rw[a];exact h.pe.begun) (by rw[j];exact h.pe.aN) (by rw[k];exact h.pe.aL) (by rw[g];exact h.pe.next) h.pe.a1 h.pe.a2 h.pe.a3 (λb a=>Or.inl a)
def yE {P:PA}{p:Pe Bg}{a:SA}(h:eV x D P p)(e:P.aL=some a):x.cell? ⟨P.pe,18,none⟩=some (.pointer (some ⟨a.se,0,none⟩)):=by have:=h.pe.cell 18;rw[this];show some (dO (P.aL.map SA.se))=_;rw[e];rfl
def qC {P:PA}{p:Pe Bg}{a:SA}{s:Se}(h:eV x D P p)(b:P.aL=some a)(c:p.aL=some s):dN x a s:=by have:=h.aL;rw[b,c]at this;exact this
def Tp (w:World)(l:Lb)(h:l.length<=maxLen:=by decide):dq (w.alloc (.cells (l.map aS).toArray 5)) w.heap.size (.slice (some ⟨w.heap.size,0,none⟩) l.length l.length) l:=
 ⟨pu,Or.inr ⟨w.heap.size,l.length,_,rfl,bm _,aO w _,bm _,h,pu,by simp[cE]⟩⟩
def xH(B:Nat):World->World->Prop:=λx y=>B<=x.heap.size->Below B x y
def aay (B:Nat):∀x y,x.grownBy y none->xH B x y:=λx y g h=>ql g B h pu
def aaz (B:Nat):∀x y z,xH B x y->xH B y z->xH B x z:=λx y z h k a=>(h a).trans (k (bJ a (h a).size))
def zR(cu n:Nat)(c:af):af:=[4,0]++aP cu 4++aP n 8++c
def VV x0 x (q A:DA)(r P:PA)(d:Dv Bu)(p:Pe Bg)(h:St x0 q r x A P d p)(ok:cT d.now p)(K:Nat)(dk:bq K d)(a:SA)(s:Se)(l:P.aL=some a)(e2:p.aL=some s)(ho:s.over d.now=false)(t:af)(ht:t.length<=2000):
 Calls prog 72 #[ptr P.pe,S t] x (ir x0 q r (.tuple #[]) (d.dt p.at_ (zR s.cu s.aG (jS s.ae s.send s.aG [] t)))
  {p with aL:=some {s with aG:=s.aG+1},tm:=p.tm.after (Se.rM {s with aG:=s.aG+1} d.now)}):=by
 have so:=ok.aL s e2;have c6:=dk.now;have AS:=λ(W:World) (hW:iS W a s)=>O1 W a s hW d.now so c6 ho t ht;obtain ⟨L1,a'⟩:=kq ([4,0]++aP s.cu 4);obtain ⟨L2,b8⟩:=kq (L1++aP s.aG 8);have c8:∀(W:World) (b:Nat) (v:Value),dq W b v [4,0]->b<=W.heap.size->Calls prog 96 #[v, .int .u64 s.cu, .int .i64 4] W (oG W b L1):=λW b v J w=>by rw[a'];exact pD W b v [4,0] s.cu 4 J (by have:=so.cu;omega) pm pu w
 have wt:IntKind.u64.wrap (s.cu:Int)=(s.cu:Int):=dE _ (by have:=so.cu;omega);have c9:∀(W:World) (b:Nat) (v:Value),dq W b v L1->b<=W.heap.size->Calls prog 96 #[v, .int .u64 s.aG, .int .i64 8] W (oG W b L2):=λW b v J w=>by rw[b8];exact pD W b v _ s.aG 8 J (by have:=so.aG;omega) pm (by rw[a',aK,gE];simp) w
 have ws:IntKind.u64.wrap (s.aG:Int)=(s.aG:Int):=dE _ (by have:=so.aG;omega);obtain ⟨o,a0⟩:=kq (p.put .aL {s with aG:=s.aG+1});have e6:=Hq (show o.at_=p.at_ from by rw[a0];rfl);have AG:=λ(W:World) (k:St x0 q r W A P d o)=>CQ W A d k.dv o.at_ (zR s.cu s.aG (jS s.ae s.send s.aG [] t)) (by have:=dk.out;have:=dk.K;omega);obtain ⟨s1,c2⟩:=kq ({s with aG:=s.aG+1}:Se);have d7:o.aL=some s1:=by rw[a0,c2];rfl
 have a6:s1.born<=1099511627776:=by rw[c2];exact bJ so.born c6
 have e0:o.tm=p.tm:=by rw[a0];rfl
 obtain ⟨d4,b'⟩:=kq (d.dt o.at_ (zR s.cu s.aG (jS s.ae s.send s.aG [] t)));have c5:d4.now=d.now:=by rw[b'];unfold Dv.dt;split<;>rfl
 have d9:d4.now<=1099511627776:=by rw[c5];exact c6
 have b4:Hid (∀y A' P',St x0 q r y A' P' d4 {o with tm:=o.tm.after (s1.rM d4.now)}->St x0 q r y A' P' (d.dt p.at_ (zR s.cu s.aG (jS s.ae s.send s.aG [] t))) {p with aL:=some {s with aG:=s.aG+1},tm:=p.tm.after (Se.rM {s with aG:=s.aG+1} d.now)}):=Hq (λy A' P' h9=>by rw[c5,e0,c2,b',e6.out,a0]at h9;exact h9)
 clear c5 e0 c2;have d2:=Hq a0;have c4:=Hq b';have H:=Hq h;clear b';have e3:zR s.cu s.aG (jS s.ae s.send s.aG [] t)=L2++jS s.ae s.send s.aG [] t:=by rw[b8,a'];rfl
 rw[e3]at AG b4 c4;rw[e3];have l2:L2.length=14:=by rw[b8,a'];simp[gE]
 have lv:(jS s.ae s.send s.aG [] t).length<=2016:=by rw[Ej _ _ _ _ _ so.send];omega
 clear e3 a' b8;unfold ir;unfold Fq at AS;clear h a0;generalize jS s.ae s.send s.aG [] t=V at*;obtain ⟨L3,b9⟩:=kq (L2++V);have r1:ByteArray.mk L2.toArray++ByteArray.mk V.toArray=⟨L3.toArray⟩:=by rw[b9];exact eD _ _
 rw[<-b9]at AG b4 c4;rw[<-b9];have f4:¬(9223372036854775807<L2.length+V.length):=pm
 have f5:¬(9223372036854775807<14+V.length):=pm
 clear b9;unfold S ptr at*;go_enter func72,ntmps72;go_wp2_with fail;have d1:eF 23 15 1002 (λx y=>aC x y [a.pr,a.wn]) (λb _ x=>St x0 q r x A P d (cond b o p)) []:=⟨λx y g=>aC.new g _,λx y z g k=>g.trans k (λi hi=>Or.inl hi),λ_ _ x y h g=>h.new g,True.intro,λ_=>True.intro,λe=>absurd e ut,qr⟩;apply gT d1 qr qr (H.out);intro u0;iterate 15 (apply aX;rfl;(intro b1 b2 x a3 u a4 a5 C hg I;first|(go_simp;exact aq)|(obtain rfl:=u (Or.inr qr);have c:St x0 q r x A P d p:=I;have e5:x.cell? ⟨P.pe,18,none⟩=some (.pointer (some ⟨a.se,0,none⟩)):=(yE c.pe l);have e4:=ab.cell (qC c.pe l e2).se;have a7:=ab.cell c.pe.pe;have c3:=ab.cell c.dv.dv;go_simp;exact aq));simp only[aA])
 apply pn d1 qr
 ·intro b1 b2 x a3 u a4 a5 C hg I;obtain rfl:=u (Or.inl rfl);have c:St x0 q r x A P d p:=I;have A1:=AS x (qC c.pe l e2).pr
  go_simp
  refine A1.mono ?_;rintro e y ⟨rfl,a0,c0⟩;refine gw ((aC.grown c0).mono pu) (?_);have hs:=qC c.pe l e2;have e9:a.pr≠a.wn:=λe=>by have J:=hs.pr.kind;have w:=hs.wn.kind;rw[e,w]at J;exact absurd (aH J) ut
  have e':a.pr≠a.se:=λe=>by have J:=hs.pr.kind;have w:=hs.se.kind;rw[e,w]at J;exact absurd (aH J) ut
  have w:St x0 q r y A P d (p.put .aL {s with aG:=s.aG+1}):=c.slot .aL (s:=s) (s':={s with aG:=s.aG+1}) l e2 ⟨ab.kept hs.se c0 (λe=>e' (aH e).symm),a0,gH.kept hs.wn c0 (λe=>e9 (aH e).symm)⟩ ((aC.grown c0).mono pu);rw[<-d2.out]at w;exact w
 simp only[aA];iterate 7 (apply aX;rfl;(intro b1 b2 x a3 u a4 a5 C hg I;first|(go_simp;exact aq)|(obtain rfl:=u (Or.inr qr);have c:St x0 q r x A P d p:=I;have e5:x.cell? ⟨P.pe,18,none⟩=some (.pointer (some ⟨a.se,0,none⟩)):=(yE c.pe l);have e4:=ab.cell (qC c.pe l e2).se;have a7:=ab.cell c.pe.pe;have c3:=ab.cell c.dv.dv;go_simp;exact aq));simp only[aA])
 refine pz ?_;intro x hg hR C;have c:St x0 q r x A P d o:=hR;have d6:x.cell? ⟨P.pe,18,none⟩=some (.pointer (some ⟨a.se,0,none⟩)):=yE c.pe l;have s3:x.cell? ⟨a.se,3,none⟩=some (.int .u32 s.cu):=by have:=(qC (s:={s with aG:=s.aG+1}) c.pe l (by rw[d2.out];rfl)).se.cell 3;exact this
 have b7:=aT x (.cells #[.int .u8 4, .int .u8 0] 5) none;have e8:=b7.cell d6 pu;have f0:=b7.cell s3 pu;have B0:=Tp x [4,0];have B1:Calls prog 96 #[.slice (some ⟨x.heap.size,0,none⟩) 2 2, .int .u64 s.cu, .int .i64 4] (x.alloc (.cells #[.int .u8 4, .int .u8 0] 5)) (oG (x.alloc (.cells #[.int .u8 4, .int .u8 0] 5)) x.heap.size L1):=c8 (x.alloc (.cells #[.int .u8 4, .int .u8 0] 5)) x.heap.size _ B0 pu;have HX:=Hq c;clear c hR hg c8 B0 AS;unfold oG at B1;go_wp2_with fail;refine B1.mono ?_;rintro e y ⟨vb,rfl,a6,a9⟩;have c':=Hq a6;have d':x.heap.size<=y.heap.size:=by have:=a9.size;simp at this;omega
 have b5:Hid (∀z,xH x.heap.size y z->x.grownBy z none):=Hq (λz hz=>Hr b7 (a9.trans (hz d')) (bm _));clear a6 a9 B1 d6 s3 e8 f0 b7;go_wp2_with fail;have d0:eF 15 11 1002 (xH x.heap.size) (λb _ z=>b=false->dq z x.heap.size vb (L1)) [(11,λrr zz=>(λv z=>dq z x.heap.size v L2) rr.v zz)]:=⟨aay _,aaz _,λ_ _ _ _ h g e=>(h e).Ih g,⟨λ_ ⟨_,v⟩ z z' h g=>tF h g (by cases v.ownBlock<;>simp),True.intro⟩,λ_=>⟨λe=>absurd rfl e,True.intro⟩,λe=>absurd e ut,qr⟩;apply gT d0 qr qr (λ_=>c'.out);intro u0;iterate 11 (apply aX;rfl;(intro b1 b2 z a3 u a4 a5 C U I;first|(go_simp;exact aq)|(have c:=HX.out.new (b5.out z U);have a7:=ab.cell c.pe.pe;go_simp;exact aq));simp only[aA])
 apply Av d0 (λrr=>rr.v) 0 rfl ut
 ·intro b1 b2 z a3 u a4 a5 C U I;obtain rfl:=u (Or.inl rfl);have B2:=c9 z x.heap.size vb (I rfl) (by have:=(U d').size;omega);unfold oG at B2
  go_simp
  refine B2.mono ?_;rintro e z' ⟨v,rfl,a6,a9⟩;exact gq ⟨0,v⟩ (λ_=>a9) (λh=>by cases h) a6
 simp only[aA];apply aX;rfl
 ·intro b1 b2 z a3 u a4 a5 C U I;have c7:=C.at (k:=0) (j:=11) rfl qr;generalize (u0 11).v=f1 at*;have kc:=jL c7;unfold S at kc
  go_simp
  exact aq
 simp only[aA];iterate 2 (apply aX;rfl;(intro b1 b2 z a3 u a4 a5 C U I;first|(go_simp;exact aq)|(have c:=HX.out.new (b5.out z U);have a7:=ab.cell c.pe.pe;go_simp;exact aq));simp only[aA])
 refine pz ?_;intro z U hR C;have c7:=C.at (k:=0) (j:=11) rfl;generalize (u0 11).v=f1 at*;have c:=HX.out.new (b5.out z U);have B3:=AG z c;have d3:=Hq c;clear c U AG c9 HX b5 c' c7 hR;go_wp2_with fail;refine B3.mono ?_;rintro e y4 ⟨rfl,A',hD⟩;have b6:=Hq (d3.out.sO hD);rw[<-c4.out]at b6;clear hD d3 B3;go_wp2_with fail;refine fe 11 qr qr ?_;iterate 11 (apply rn;(intro f2 R;first|(go_simp;exact aq)|(have f:=b6.out.new R;have a7:=ab.cell f.pe.pe;have c3:=ab.cell f.dv.dv;go_simp;exact aq));simp only[aA])
 refine rz ?_;intro f2 R;have f:=b6.out.new R;have a1:=(MP _ P.tm _ d4.now f.pe.tm d9);unfold kB at a1;have a8:=Hq f;clear f R;go_wp2_with fail;refine a1.mono ?_;rintro e f6 ⟨rfl,b0,b3⟩;have a2:=Hq (a8.out.timer (t:=o.tm.du) b0 b3);clear b0 b3 a8 a1;clear b6;go_wp2_with fail;refine fe 14 qr qr ?_;iterate 14 (apply rn;(intro z5 c1;first|(go_simp;exact aq)|(have c:=a2.out.new c1;have e5:z5.cell? ⟨P.pe,18,none⟩=some (.pointer (some ⟨a.se,0,none⟩)):=(yE c.pe l);have e4:=ab.cell (qC (s:=s1) c.pe l d7).se;have a7:=ab.cell c.pe.pe;have c3:=ab.cell c.dv.dv;go_simp;exact aq));simp only[aA])
 refine rz ?_;intro z5 c1;have c:=a2.out.new c1;have B5:=O3 z5 a s1 (qC (s:=s1) c.pe l d7).pr a6 d4.now;have d5:=Hq c;clear c c1;generalize d8:s1.rM d4.now=bb at*;have HB:=Hq d8;clear d8;cases bb with
 |false=>go_wp2_with fail;refine B5.mono ?_;rintro e y6 ⟨rfl,rfl⟩;go_wp2;go_end0;exact ⟨rfl,A',P,b4.out _ _ _ d5.out⟩
 |true=>
  go_wp2_with fail;refine B5.mono ?_;rintro e y6 ⟨rfl,rfl⟩;clear a2 B5;have a2:=d5;go_wp2_with fail;refine fe 11 qr qr ?_;iterate 11 (apply rn;(intro f3 R;first|(go_simp;exact aq)|(have f:=a2.out.new R;have a7:=ab.cell f.pe.pe;have c3:=ab.cell f.dv.dv;go_simp;exact aq));simp only[aA])
  refine rz ?_;intro f3 R;have f:=a2.out.new R;have a1:=(GR _ P.tm _ d4.now f.pe.tm d9);unfold kB at a1;have a8:=Hq f;clear f R;go_wp2_with fail;refine a1.mono ?_;rintro e f7 ⟨rfl,b0,b3⟩;have e7:=Hq (a8.out.timer (t:=o.tm.du.wanted) b0 b3);clear b0 b3 a8 a1;go_wp2;go_end0;exact ⟨rfl,A',P,b4.out _ _ _ e7.out⟩
structure Hd where
 s:Nat
 x:NS
 index:Nat
 once:af
 static:af
def uv(h:Hd):Lv:=[hJ h.s,S h.x.h,S h.x.c,S h.x.k, .int .u64 h.x.n, .int .i64 h.s, .int .u32 h.index,S h.once,S h.static]
def JK(t:jh):Lv:=[.int .i64 t.ae, .int .u32 t.index,S t.static, .int .i64 t.sec, .int .i64 t.nano, .int .i64 t.aj]
def vE(c:Nat)(r:Option (af×Bool))(w:World)(e:Ending)(a:World):Prop:=match r with
 |some (t,b)=>Grown (.tuple #[S t, .bool b, .int .i64 0]) w e a
 |none=>Grown (.tuple #[S [], .bool false, .int .i64 c]) w e a
def tX(c:Nat)(r:Option af)(w:World)(e:Ending)(a:World):Prop:=match r with
 |some t=>Grown (.tuple #[S t, .int .i64 0]) w e a
 |none=>Grown (.tuple #[S [], .int .i64 c]) w e a
def JY(c:Nat)(r:Option (af×Bg))(w:World)(e:Ending)(a:World):Prop:=match r with
 |some (s,b)=>∃g,e= .returned (.tuple #[S s,ptr g, .int .i64 0])/\ab a g 312 (tZ b)/\w.grownBy a none/\w.heap.size<=g
 |none=>Grown (.tuple #[S [], .pointer none, .int .i64 c]) w e a
def Cf(c:Nat)(r:Option (jh×Hd))(w:World)(e:Ending)(a:World):Prop:=match r with
 |some (t,h)=>∃g,e= .returned (.tuple #[.agg (JK t).toArray,ptr g, .int .i64 0])/\ab a g 323 (uv h)/\w.grownBy a none/\w.heap.size<=g
 |none=>Grown (.tuple #[.agg #[.int .i64 0, .int .u32 0,S [], .int .i64 0, .int .i64 0, .int .i64 0], .pointer none, .int .i64 c]) w e a
def Cb(c:Nat)(r:Option (af×af×af))(w:World)(e:Ending)(a:World):Prop:=match r with
 |some (s,snd,b)=>Grown (.tuple #[S s, .agg #[S snd,S b], .int .i64 0]) w e a
 |none=>Grown (.tuple #[S [], .agg #[S [],S []], .int .i64 c]) w e a
def Fi(c:Nat)(r:Option (af×af×Nat×Nat))(w:World)(e:Ending)(a:World):Prop:=match r with
 |some (snd,b,aj,cu)=>Grown (.tuple #[.agg #[S snd,S b], .int .i64 aj, .int .u32 cu, .int .i64 0]) w e a
 |none=>Grown (.tuple #[.agg #[S [],S []], .int .i64 0, .int .u32 0, .int .i64 c]) w e a
def Fs(a b:Nat)(c:Nat)(k:Bu)(w:World)(e:Ending)(d:World):Prop:=e= .returned (.int .i64 c)/\lV d a b k.1 k.2.1 k.2.2/\aC w d [a,b]
structure xz(b:Bg):Prop where
 s:b.s=1\/b.s=2
 x:b.x.ok
 own:b.own.length=32
 peer:b.peer.length=32
 aD:b.aD.length=32
 once:b.once.length=32
 id:b.id<4294967296
structure vG(h:Hd):Prop where
 s:h.s=1\/h.s=2
 x:h.x.ok
 index:h.index<4294967296
 once:h.once.length=32
 static:h.static.length=32
structure bD(C:Cr Bg Hd Bu):Prop where
 key:∀s n,C.key s n=fg s n
 mark:∀ag c t,C.mark ag c t=mq ag c t
 vT:∀bt src now,C.vT bt src now=fx bt (oR src now) 16
 shut:∀ae key n t,C.shut ae key n t=some (jS ae key n [] t)
 opened:∀ae key n s,C.opened ae key n s=mv ae key n [] s
 yM:∀next bits n,C.yM next bits n=tA next bits n
 wS:∀next bits n,C.wS next bits n=kM next bits n
 aP:∀n k,C.aP n k=Go.Proofs.YtmomfbkpniblgaaGreatDoor.aP n k
 me:∀n k,C.me n k=bo n k
 gA:∀l,C.gA l=aV l
 dW:∀l:af,l.length<=8->C.dW l<2^(8*l.length)/\∀w:World,Calls prog 92 #[S l] w λe w'=>e= .returned (.int .u64 (C.dW l))/\w=w'
 check:∀(ag c s:af),ag.length=32->c.length=16->s.length<=2000->(∀t b,C.check ag c s=some (t,b)->t.length+32=s.length)/\∃k:Nat,k≠0/\k<=15/\∀w:World,Calls prog 174 #[S ag,S c,S s] w (vE k (C.check ag c s) w)
 fJ:∀(ag nonce c s:af),ag.length=32->nonce.length=24->c.length=16->s.length<=2000->(∀t,C.fJ ag nonce c s=some t->t.length=62)/\∃k:Nat,k≠0/\k<=15/\∀w:World,Calls prog 175 #[S ag,S nonce,S c,S s] w (tX k (C.fJ ag nonce c s) w)
 accept:∀(ag m s:af),ag.length=32->m.length<=2000->s.length<=2000->(∀t,C.accept ag m s=some t->t.length=16)/\∃c:Nat,c≠0/\c<=15/\∀w:World,Calls prog 185 #[S ag,S m,S s] w (tX c (C.accept ag m s) w)
 begun:∀(ae:Nat) (own peer aD once:af) (sec nano aj id:Nat),(ae=1\/ae=2)->own.length=32->peer.length=32->aD.length=32->once.length=32->sec<=1099511627776->nano<=999999999->(aj=1\/aj=2)->id<4294967296->
  (∀s b,C.begun ae own peer aD once sec nano aj id=some (s,b)->s.length=115/\xz b)/\∃c:Nat,c≠0/\c<=15/\∀w:World,Calls prog 171 #[.agg #[.int .i64 ae,S own,S peer,S aD],S once, .agg #[.int .i64 sec, .int .i64 nano], .int .i64 aj, .int .u32 id] w (JY c (C.begun ae own peer aD once sec nano aj id) w)
 oZ:∀(own s:af),own.length=32->s.length<=2000->(∀t h,C.oZ own s=some (t,h)->vG h/\(t.ae=1\/t.ae=2)/\t.index<4294967296/\t.sec<=1099511627776/\t.nano<=999999999/\(t.aj=1\/t.aj=2))/\∃c:Nat,c≠0/\c<=15/\∀w:World,Calls prog 177 #[S own,S s] w (Cf c (C.oZ own s) w)
 answer:∀(h:Hd) (aD once:af) (aj id:Nat),vG h->aD.length=32->once.length=32->(aj=1\/aj=2)->id<4294967296->
  (∀s snd rcv,C.answer h aD once aj id=some (s,snd,rcv)->s.length=59/\snd.length=32/\rcv.length=32)/\∃c:Nat,c≠0/\c<=15/\∀(w:World) (g:Nat),ab w g 323 (uv h)->Calls prog 179 #[ptr g,S aD,S once, .int .i64 aj, .int .u32 id] w (Cb c (C.answer h aD once aj id) w)
 finish:∀(b:Bg) (s:af),xz b->s.length<=2000->(∀snd rcv aj cu,C.finish b s=some (snd,rcv,aj,cu)->snd.length=32/\rcv.length=32/\(aj=1\/aj=2)/\cu<4294967296/\s.length=59/\((s.getD 1 0).toNat=1\/(s.getD 1 0).toNat=2))/\∃c:Nat,c≠0/\c<=15/\∀(w:World) (g:Nat),ab w g 312 (tZ b)->Calls prog 183 #[ptr g,S s] w (Fi c (C.finish b s) w)
 take:∀(k:Bu) (src now:Nat),src<4294967296->now<=1099511627776->0<=k.1->k.1<=(now:Int)->k.2.1<1000000000->(C.take k src now).2.1=(now:Int)/\(C.take k src now).2.2.1=k.2.1+1/\∃c:Nat,c<=15/\((C.take k src now).1=true↔c=0)/\∀(w:World) (a b:Nat),lV w a b k.1 k.2.1 k.2.2->Calls prog 176 #[ptr a, .int .u32 src, .int .i64 now] w (Fs a b c (C.take k src now).2 w)
def VU x0 x (j A:DA)(l P:PA)(d:Dv Bu)(p:Pe Bg)(h:St x0 j l x A P d p)(a:SA)(s:Se)(f:P.aL=some a)(g:p.aL=some s)(r:s.born<=1099511627776)(u:s.over d.now=true)(t:af):
 Calls prog 72 #[ptr P.pe,S t] x (ir x0 j l (.tuple #[]) d p):=by
 have k:=λ(W:World) (q:iS W a s)=>O2 W a s q r d.now u t;have H:=Hq h;unfold ir;clear h;unfold S ptr at*;go_enter func72,ntmps72;go_wp2_with fail;refine fe 23 qr qr ?_;iterate 15 (apply rn;(intro y c;first|(go_simp;exact aq)|(have b:=H.out.new c;have I:y.cell? ⟨P.pe,18,none⟩=some (.pointer (some ⟨a.se,0,none⟩)):=(yE b.pe f);have C:=ab.cell (qC b.pe f g).se;have w:=ab.cell b.pe.pe;have v:=ab.cell b.dv.dv;go_simp;exact aq));simp only[aA])
 apply rn
 ·intro y c;have b:=H.out.new c;have o:=k y (qC b.pe f g).pr
  go_simp
  refine o.mono ?_;rintro e z ⟨rfl,rfl⟩;exact aq
 simp only[aA];iterate 7 (apply rn;(intro y c;first|(go_simp;exact aq)|(have b:=H.out.new c;have I:y.cell? ⟨P.pe,18,none⟩=some (.pointer (some ⟨a.se,0,none⟩)):=(yE b.pe f);have C:=ab.cell (qC b.pe f g).se;have w:=ab.cell b.pe.pe;have v:=ab.cell b.dv.dv;go_simp;exact aq));simp only[aA])
 refine rz ?_;intro y c;have b:=H.out.new c;clear c k;go_wp2_with fail;first|go_end0|refine bodyPost_ret (rX rfl _ _ _) rfl ?_
 exact ⟨rfl,A,P,b⟩
def CZ (C:Cr Bg Hd Bu)(j:bD C) x0 x (c A:DA)(e P:PA)(d:Dv Bu)(p:Pe Bg)(h:St x0 c e x A P d p)(ok:cT d.now p)(K:Nat)(f:bq K d)(k:p.aL≠none)(t:af)(l:t.length<=2000):
 Calls prog 72 #[ptr P.pe,S t] x (ir x0 c e (.tuple #[]) (du C d p t).1 (du C d p t).2):=by
 rcases Pw h.pe with⟨_,b⟩|⟨a,s,g,b,_⟩
 ·exact absurd b k
 unfold du;rw[b];cases ho:s.over d.now with
 |true=>simp only[ho,sf];exact VU x0 x c A e P d p h a s g b (bJ (ok.aL s b).born f.now) ho t
 |false=>simp only[ho,j.shut,j.aP];exact VV x0 x c A e P d p h ok K f a s g b ho t l
def bq.more {d:Dv Bu}(h:bq K d)(a:K<=L)(b:L<=100000000):bq L d:=
 ⟨h.here,h.own,h.ag,h.an,h.aj,h.bt,h.now,bJ h.fresh a,bJ h.index a,bJ h.dr a,bJ h.bk a,h.jw,bJ h.out a,bJ h.aE a,b⟩
def bq.dt {d:Dv Bu}(h:bq K d)(a:K+1<=100000000)(dst:Nat)(t:af):bq (K+1) (d.dt dst t):=by
 unfold Dv.dt;split
 ·exact h.more pm a
 exact ⟨h.here,h.own,h.ag,h.an,h.aj,h.bt,h.now,fX h.fresh,fX h.index,fX h.dr,fX h.bk,h.jw,by have:=h.out;simp;omega,fX h.aE,a⟩
def zZ (d:Dv Bu)(dst:Nat)(t:af):(d.dt dst t).now=d.now:=by unfold Dv.dt;split<;>rfl
structure dZ(d e:Dv Bu):Prop where
 here:e.here=d.here
 own:e.own=d.own
 ag:e.ag=d.ag
 an:e.an=d.an
 aj:e.aj=d.aj
 bt:e.bt=d.bt
 now:e.now=d.now
 busy:e.busy=d.busy
 fB:e.fB=d.fB
def dZ.refl (d:Dv Bu):dZ d d:=⟨rfl,rfl,rfl,rfl,rfl,rfl,rfl,rfl,rfl⟩
def dZ.trans {a b c:Dv Bu}(h:dZ a b)(k:dZ b c):dZ a c:=⟨k.here.trans h.here,k.own.trans h.own,k.ag.trans h.ag,k.an.trans h.an,k.aj.trans h.aj,k.bt.trans h.bt,k.now.trans h.now,k.busy.trans h.busy,k.fB.trans h.fB⟩
def Hm (d:Dv Bu)(dst:Nat)(t:af):dZ d (d.dt dst t):=by unfold Dv.dt;split<;>exact ⟨rfl,rfl,rfl,rfl,rfl,rfl,rfl,rfl,rfl⟩
structure oH(p q:Pe Bg):Prop where
 number:q.number=p.number
 ag:q.ag=p.ag
 aD:q.aD=p.aD
 at_:q.at_=p.at_
 waits:q.waits=p.waits
 aL:q.aL≠none↔p.aL≠none
def oH.refl (p:Pe Bg):oH p p:=⟨rfl,rfl,rfl,rfl,rfl,Iff.rfl⟩
def oH.trans {a b c:Pe Bg}(h:oH a b)(k:oH b c):oH a c:=⟨k.number.trans h.number,k.ag.trans h.ag,k.aD.trans h.aD,k.at_.trans h.at_,k.waits.trans h.waits,k.aL.trans h.aL⟩
def cT.timer {p:Pe Bg}(h:cT n p)(t:Ti)(h1:t.tries<=6)(a:t.last<=n)(b:t.since<=n):cT n {p with tm:=t}:=
 ⟨h.number,h.ag,h.aD,h.at_,h.dj,h.br,h.sec,h.nano,h.ew,h.eQ,h.kj,h.waits,h.dp,h.fo,h.begun,h.aN,h.aL,h.next,h1,a,b⟩
def Sb (t:Ti)(b:Bool):(t.after b).tries=t.tries/\(t.after b).last=t.last/\(t.after b).since=t.since:=by unfold Ti.after;split<;>exact ⟨rfl,rfl,rfl⟩
def tu (C:Cr Bg Hd Bu)(f:bD C){d:Dv Bu}{p:Pe Bg}(ok:cT d.now p)(b:bq K d)(c:K+1<=100000000)(t:af):
 cT (du C d p t).1.now (du C d p t).2/\bq (K+1) (du C d p t).1/\dZ d (du C d p t).1/\oH p (du C d p t).2:=by
 unfold du;cases e:p.aL with
 |none=>exact ⟨ok,b.more pm c,dZ.refl _,oH.refl _⟩
 |some s=>
  have a:=ok.aL s e;dsimp only;cases ho:s.over d.now with
  |true=>exact ⟨ok,b.more pm c,dZ.refl _,oH.refl _⟩
  |false=>
   simp only[f.shut,f.aP,tG,oE];refine ⟨?_,b.dt c _ _,Hm _ _ _,⟨rfl,rfl,rfl,rfl,rfl,by simp[e]⟩⟩;have l:s.aG+1<=1000:=by unfold Se.over at ho;simp at ho;omega
   obtain ⟨g,j,k⟩:=Sb p.tm (Se.rM {s with aG:=s.aG+1} d.now);rw[zZ];exact ⟨ok.number,ok.ag,ok.aD,ok.at_,ok.dj,ok.br,ok.sec,ok.nano,ok.ew,ok.eQ,ok.kj,ok.waits,ok.dp,ok.fo,ok.begun,ok.aN,λo h=>by cases h;exact ⟨a.ae,a.fy,a.cu,a.send,a.recv,a.born,l,a.next,a.bits⟩,ok.next,by rw[g];exact ok.tries,by rw[j];exact ok.last,by rw[k];exact ok.since⟩
def Qo (C:Cr Bg Hd Bu):∀(l:List af) (d:Dv Bu) (p:Pe Bg) (t:af),iB C d p (l++[t])=du C (iB C d p l).1 (iB C d p l).2 t
 |[],d,p,t=>rfl
 |x::l,d,p,t=>by rw[pL,iB,iB,Qo C l]
def Ji (C:Cr Bg Hd Bu)(b:bD C):∀(l:List af) {K:Nat} {d:Dv Bu} {p:Pe Bg},cT d.now p->bq K d->K+l.length<=100000000->
 cT (iB C d p l).1.now (iB C d p l).2/\bq (K+l.length) (iB C d p l).1/\dZ d (iB C d p l).1/\oH p (iB C d p l).2
 |[],K,d,p,ok,a,c=>⟨ok,a,dZ.refl _,oH.refl _⟩
 |x::l,K,d,p,ok,a,c=>by rw[eI]at c;obtain ⟨h,j,k,o⟩:=tu C b ok a pm x;obtain ⟨e,g2,f,g⟩:=Ji C b l h j pm;rw[iB];exact ⟨e,by rw[eI,show K+(l.length+1)=K+1+l.length from pm];exact g2,k.trans f,o.trans g⟩
def cT.empty {p:Pe Bg}(h:cT n p):cT n {p with waits:=[]}:=
 ⟨h.number,h.ag,h.aD,h.at_,h.dj,h.br,h.sec,h.nano,h.ew,h.eQ,pu,pu,h.dp,h.fo,h.begun,h.aN,h.aL,h.next,h.tries,h.last,h.since⟩
def Dl (C:Cr Bg Hd Bu)(g:bD C){d:Dv Bu}{p:Pe Bg}(ok:cT d.now p)(a:bq K d)(h:K+4<=100000000):
 cT (flush C d p).1.now (flush C d p).2/\bq (K+4) (flush C d p).1/\dZ d (flush C d p).1/\oH {p with waits:=[]} (flush C d p).2:=by
 have j:=ok.kj;obtain ⟨b,c,e,f⟩:=Ji C g p.waits ok.empty a pm;exact ⟨b,c.more pm h,e,f⟩
def eV.D7 {P:PA}{p:Pe Bg}(h:eV x D P p)(l:P.waits.ownBlock=none):∀b∈P.fp,cD x b≠some 9:=by
 intro b c;have j:∀k,b∈dX (P.slot k)->cD x b≠some 9:=λk f=>by
  have:=h.slot k;cases e:P.slot k with
  |none=>rw[e]at f;simp[dX]at f
  |some a=>cases e2:p.slot k with
   |none=>rw[e,e2]at this;exact this.elim
   |some s=>
    rw[e,e2]at this;rw[e]at f;simp only[dX,SA.fp,bp,dD,dH]at f;rcases f with rfl|rfl|rfl
    ·rw[dN.se this|>.kind];decide
    ·rw[dN.pr this|>.kind];decide
    rw[dN.wn this|>.kind];decide
 simp only[PA.fp,bG,bp,dD,dH]at c;rcases c with((((c|c)|c)|c)|c)|c
 ·rcases c with rfl|rfl
  ·rw[h.pe.kind];decide
  rw[h.tm.kind];decide
 ·rw[l]at c;simp at c
 ·have d:=h.begun;cases e:P.begun with
  |none=>rw[e]at c;simp at c
  |some g=>
   rw[e]at d c;obtain rfl:b=g:=by simpa using c
   cases e2:p.begun with
   |none=>rw[e2]at d;exact d.elim
   |some z=>rw[e2]at d;rw[ab.kind d];decide
 ·exact j .aN c
 ·exact j .aL c
 exact j .next c
def Gy (C:Cr Bg Hd Bu)(hC:bD C) x0 x (A0 A:DA)(P0 P:PA)(d:Dv Bu)(p:Pe Bg)(h:St x0 A0 P0 x A P d p)(ok:cT d.now p)(K:Nat)(dk:bq K d)(hK:K+4<=100000000)(hs:p.aL≠none):
 Calls prog 184 #[ptr P.pe] x (ir x0 A0 P0 (.tuple #[]) (flush C d p).1 (flush C d p).2):=by
 have hw:=h.pe.waits;have a':x.cell? ⟨P.pe,13,none⟩=some P.waits:=ab.cell h.pe.pe 13;have b6:=ab.frozen h.pe.pe 13;obtain ⟨j,U⟩:=kq ({P with waits:= .slice none 0 0}:PA);obtain ⟨s,v⟩:=kq ({p with waits:=[]}:Pe Bg);have R:St x0 A0 P0 (x.setCell ⟨P.pe,13,none⟩ (.slice none 0 0)) A j d s:=by
  rw[U,v];exact h.write (P':={P with waits:= .slice none 0 0}) (p':={p with waits:=[]}) 13 (.slice none 0 0) rfl rfl rfl rfl (nX _ _ _) h.pe.begun h.pe.aN h.pe.aL h.pe.next h.pe.a1 h.pe.a2 h.pe.a3 (λb c=>by
   left;simp only[PA.fp,Value.ownBlock,Option.toList,ev,bG,bp,dD,dH]at c⊢;rcases c with(((c|c)|c)|c)|c
   ·exact Or.inl (Or.inl (Or.inl (Or.inl (Or.inl c))))
   ·exact Or.inl (Or.inl (Or.inl (Or.inr c)))
   ·exact Or.inl (Or.inl (Or.inr c))
   ·exact Or.inl (Or.inr c)
   exact Or.inr c)
 have b2:j.pe=P.pe:=by rw[U]
 obtain ⟨l,r⟩:=kq p.waits;have b9:l.length<=4:=by rw[r];exact ok.kj
 have b0:∀t∈l,t.length<=1004:=by rw[r];exact ok.waits
 have b4:cT d.now s:=by rw[v];exact ok.empty
 have b3:s.aL≠none:=by rw[v];exact hs
 have HF:Hid (flush C d p=iB C d s l):=Hq (by rw[v,r];rfl);have a6:∀y:World,aC (x.setCell ⟨P.pe,13,none⟩ (.slice none 0 0)) y (A.fp++j.fp)->aZ y 9 1 P.waits l.length (l.map S):=λy hy=>by
  have g:=aw (ak x (some P.pe)) 13 (.slice none 0 0);have a7:aZ (x.setCell ⟨P.pe,13,none⟩ (.slice none 0 0)) 9 1 P.waits l.length (l.map S):=by
   rw[r];exact aZ.kept hw g (by
    rcases hk:P.waits.ownBlock with _|k
    ·exact Or.inl rfl
    refine Or.inr λe=>?_;have f:=(aZ.kind hw k hk).1;rw[aH e,h.pe.pe.kind]at f;exact absurd (aH f) ut)
  refine a7.only hy λk hk hm=>?_;have f:=(aZ.kind a7 k hk).1;rcases bG.1 hm with hm|hm
  ·have:=(R.dv.kinds k hm).1;rw[f]at this;rcases this with e|e|e|e|e<;>revert e<;>decide
  exact R.pe.D7 (by rw[U];rfl) k hm f
 obtain ⟨L,hL⟩:=kq l.length;have w:∃a q,P.waits= .slice a L q/\L<=q/\q<=maxLen:=by
  rw[hL,r];rcases hw.2with⟨e,e2⟩|⟨g,o,q,b5,e,_,e3,e4,_⟩
  ·exact ⟨none,0,by rw[e,e2],pm,pm⟩
  exact ⟨_,q,e,e3,e4⟩
 obtain ⟨a,q,w,b7,b8⟩:=w;have HR:=Hq a6;have H1:=Hq R;have a9:=Hq w;have HL:=Hq hL;rw[w]at a';clear h hw a6 R w ok hs r U v hL;unfold ir;unfold ptr;rw[HF.out];clear HF;go_enter func184,ntmps184;go_wp2_with fail;obtain ⟨x1,a8⟩:=kq (x.setCell ⟨P.pe,13,none⟩ (.slice none 0 0));rw[<-a8]at H1 HR⊢;clear a8;go_loopw [14] (λa4 wr=>∃i:Nat,i<=L/\a4= .int .i64 i/\∃J u,Hid (St x1 A j wr J u (iB C d s (l.take i)).1 (iB C d s (l.take i)).2)) (λa4 _=>L-(intOf a4).toNat)
 case atStart=>exact ⟨0,pm,rfl,A,j,Hq (St.start H1.out.dv H1.out.pe)⟩
 case round=>
  obtain ⟨i,hi,rfl,J,u,I⟩:=hrel;by_cases b1:i<L
  ·have a0:i<l.length:=by rw[<-HL.out];exact b1
   have hd:decide ((i:Int)<(L:Int))=true:=pp;obtain ⟨g,o,cp,f,_,_,_,_,a5⟩:=(HR.out wr I.out.only).at pm;rw[a9.out]at f;injection f with f e2 e3;subst f;have hc:wr.cell? ⟨g,o+i,none⟩=some (.string ⟨(l[i]).toArray⟩):=a5 i _ (by simp[a0,S]);obtain ⟨k1,k2,k3,k4⟩:=Ji C hC (l.take i) b4 dk (by rw[aJ];omega);have B:=CZ C hC x1 wr A J j u _ _ I.out k1 _ k2 (k4.aL.2 b3) l[i] (by have:=b0 l[i] (iE a0);omega);rw[<-Qo,<-fP a0]at B;have hq:u.pe=P.pe:=by rw[I.out.e6];exact b2
   unfold ir ptr S at B;rw[hq]at B;clear a5 k1 k2 k3 k4 e2 e3;generalize l[i]=t at*;go_wp2_with fail;refine B.mono ?_;rintro e y ⟨rfl,A2,P2,h2⟩;have H2:=Hq h2;clear h2 B I hc;go_wp2;go_roundw
   case rel=>exact ⟨i+1,pm,by go_num,A2,P2,H2⟩
   case measure=>simp[intOf];omega
  have hd:decide ((i:Int)<(L:Int))=false:=pp
  go_wp2;go_end0;have e:=I.out;rw[cE (by have:=HL.out;omega)]at e;exact ⟨rfl,J,u,H1.out.step e⟩
def Gz w (A:DA)(d:Dv Bu)(h:cZ w A d)(a:Nat)(b:a<4294967296):
 Calls prog 69 #[.pointer (some ⟨A.tb,0,none⟩), .int .u32 a] w λe y=>e= .returned (.tuple #[.int .i64 ((d.fB a).getD 0:Nat), .bool (d.fB a).isSome])/\w.grownBy y none:=by
 obtain ⟨O,⟨N,M,V,T,_,c,_⟩,g⟩:=h.tb;have B:=Wa w A.tb N M V _ T a b;rw[c,<-xV,g a b]at B;refine ax B λy f=>?_;refine ⟨?_,f⟩;unfold Qc;cases d.fB a<;>rfl
def Od:(prog.info? 54).map (λi=>(i.zero,i.size,i.bytes))=some (some (.agg #[.int .i64 0, .int .u32 0, .string ⟨#[]⟩]),3,32):=qr
def M6 (l:List Pk)(g:Pk):(l++[g]).flatMap nZ=l.flatMap nZ++nZ g:=pu
def Qg w v (l:List Pk)(h:iI w v l)(g:Pk)(b:Nat)(o:ab w b 54 (nZ g))(u:l.length<=1000000000):
 ∃a c,(Builtin.append_ #[51,51] 51 #[v, .slice (some ⟨b,0,none⟩) 1 1]).run prog w= .ok a c/\iI c a (l++[g])/\w.grownBy c v.ownBlock/\(a.ownBlock=v.ownBlock\/a.ownBlock=some w.heap.size)/\iI c v l:=by
 obtain ⟨t,p,q,r,s⟩:=mF Od;obtain ⟨a,c,d,e,f,j,k⟩:=wE w 51 51 54 t _ 3 32 underlying51 p q r s rfl pm v l.length (l.flatMap nZ) h ⟨b,0,none⟩ 1 1 (nZ g) rfl (KQ o) (by simp[nZ,Value.oneCell',S]) pm (by unfold maxLen;omega) pm;refine ⟨a,c,d,?_,f,j,k⟩;unfold iI;rw[aK,M6];exact e
def sq(B:Nat)(aN:Value)(l:List Pk):Value->World->Prop:=λv x=>iI x v l/\(v.ownBlock=aN.ownBlock\/∃k,v.ownBlock=some k/\B<=k)
def sq.mono {B:Nat}{aN}{l:List Pk}:∀v x y,sq B aN l v x->x.grownBy y none->sq B aN l v y:=λv x y h g=>⟨aZ.new h.1 g,h.2⟩
def St.L8 {x0}{u A:DA}{q P P':PA}{d:Dv Bu}{p p':Pe Bg}(h:St x0 u q x A P d p)(g:x.grownBy y (some P.pe))(hB:ab y P.pe 123 (qw A.dev P' p'))(v:P'.pe=P.pe)(l:P'.tm=P.tm)(a6:p'.tm=p.tm)
 (C:kT x P'.waits p'.waits) (c:nF x P'.begun p'.begun) (ho:fL x P'.aN p'.aN) (f:fL x P'.aL p'.aL) (hn:fL x P'.next p'.next) (I:oN P'.aL P'.aN) (J:oN P'.next P'.aN) (R:oN P'.next P'.aL) (a4:∀b∈P'.fp,b∈P.fp\/x.heap.size<=b\/b∈q.fp\/x0.heap.size<=b):
 St x0 u q y A P' d p':=by
 have j:aC x y [P.pe]:=(aC.grown g).mono pu;have w:=h.pe.pe.kind;have k:∀(b:Nat) (t:TypeId),cD x b=some t->t≠123->b∉[P.pe]:=λb t c U hm=>by simp at hm;subst hm;rw[w]at c;exact U (aH c).symm
 have r:∀(a:Option SA) (s:Option Se),fL x a s->fL y a s:=λa s f=>f.only j (λb c=>by
  cases a with
  |none=>simp[dX]at c
  |some a=>cases s with
   |none=>exact f.elim
   |some s=>
    simp only[dX,SA.fp,bp,dD,dH]at c;rcases c with rfl|rfl|rfl
    ·exact k _ _ (dN.se f).kind ut
    ·exact k _ _ (dN.pr f).kind ut
    exact k _ _ (dN.wn f).kind ut)
 have a0:nF y P'.begun p'.begun:=c.only j (λb o=>by
  cases e:P'.begun with
  |none=>rw[e]at o;simp at o
  |some g=>
   rw[e]at c o;obtain rfl:b=g:=by simpa using o
   cases l:p'.begun with
   |none=>rw[l]at c;exact c.elim
   |some z=>rw[l]at c;exact k b _ (ab.kind c) ut)
 have a5:eV y A.dev P' p':=⟨by rw[v];exact hB,by rw[l,a6];exact j.obj h.pe.tm (k _ _ h.pe.tm.kind ut),aZ.only C j (λb c=>k b _ (aZ.kind C b c).1 ut),a0,r _ _ ho,r _ _ f,r _ _ hn,I,J,R⟩;exact ⟨h.dv.peer j (λb c=>by simp at c;subst c;rw[w];simp[iX]),a5,h.e1,h.e2,h.e3,h.e4,h.e5,v.trans h.e6,l.trans h.e7,
  h.only.trans j (λb c=>by simp at c;subst c;exact (h.fp P.pe (by simp[PA.fp])).imp (λe=>nu _ e) id),
  h.fa,λb c=>by
   rcases a4 b c with e|e|e|e
   ·exact h.fp b e
   ·exact Or.inr (bJ h.only.size e)
   ·exact Or.inl e
   exact Or.inr e⟩
def St.at_slot {x0}{b A:DA}{c P:PA}{d:Dv Bu}{p:Pe Bg}(h:St x0 b c x A P d p){k:Sl}{a:SA}{s:Se}(e:P.slot k=some a)(f:p.slot k=some s):dN x a s:=by have:=h.pe.slot k;rw[e,f]at this;exact this
def IW (p:Pe Bg)(k:Sl)(s:Se):(p.put k s).slot k=some s:=by cases k<;>rfl
def St.Ei {x0}{f A:DA}{g P:PA}{d:Dv Bu}{p:Pe Bg}{b:Se}{c:Bool}{k:Sl}(h:St x0 f g x A P d (cond c (p.put k b) p)){a:SA}{s:Se}(e:P.slot k=some a)(j:p.slot k=some s):x.cell? ⟨a.se,0,none⟩=some (.pointer (some ⟨a.pr,0,none⟩)):=by
 cases c with
 |false=>exact ab.cell (St.at_slot (p:=p) h e j).se 0
 |true=>exact ab.cell (St.at_slot (p:=p.put k b) h e (IW p k b)).se 0
def aat:(prog.info? 191).map (λi=>i.size)=some 4:=qr
def Oe:∃j,prog.info? 191=some j/\j.size≠0:=by
 have h:=aat;cases e:prog.info? 191with
 |none=>rw[e]at h;cases h
 |some j=>rw[e]at h;exact ⟨j,rfl,by simp at h;omega⟩
def JN:prog.underlying 121=some (.pointer 191):=qr
def Y4 (w:World)(b:Nat):(binOp .eql 121 (.pointer (some ⟨b,0,none⟩)) (.pointer (some ⟨b,0,none⟩))).run prog w= .ok (.bool true) w:=by obtain ⟨j,a,_⟩:=Oe;exact run_eql_ptr_same w _ JN a
def Y5 {P:PA}{p:Pe Bg}(h:eV x D P p){k:Sl}{a:SA}{s:Se}(l:P.slot k=some a)(r:p.slot k=some s)(q:k≠ .next):
 (binOp .eql 121 (.pointer (some ⟨a.se,0,none⟩)) (dO (P.next.map SA.se))).run prog x= .ok (.bool false) x:=by
 have f:=h.slot k;rw[l,r]at f;have f:dN x a s:=f;have c:=h.next;cases e:P.next with
 |none=>
  have h:∀d:Nat,(Op.equalIn (d+1) 121 (.pointer (some ⟨a.se,0,none⟩)) (.pointer none)).run prog x= .ok false x:=λd=>by simp[Op.equalIn,rV JN]
  unfold dO;simp only[vj,binOp];simp[Op.equal,Op.maxDepth,h 9999]
 |some b=>
  cases e2:p.next with
  |none=>rw[e,e2]at c;exact c.elim
  |some s2=>rw[e,e2]at c;have c:dN x b s2:=c;obtain ⟨j,o,t⟩:=Oe;refine run_eql_ptr_other x JN o t (λg=>?_) f.se c.se;have g:a.se=b.se:=iQ Addr.block g;have:=h.apart q a.se (by rw[l];simp[dX,SA.fp]);apply this;show a.se∈dX P.next;rw[e,g];simp[dX,SA.fp]
def zl(w:World)(a:SA)(b:Se)(t:af)(e:Ending)(y:World):Prop:=e= .returned (.tuple #[S t, .int .i64 0])/\dN y a b/\aC w y [a.pr,a.wn]
def IJ (C:Cr Bg Hd Bu)(h:bD C)(a:SA)(s:Se)(now:Nat)(ok:iJ now s)(f:now<=1099511627776)(n:Nat)(j:n<=1099511627776)(d:af)(r:d.length<=2016):
 (s.opens C n d now=none/\∀z,dN z a s->Calls prog 246 #[.pointer (some ⟨a.pr,0,none⟩), .int .i64 n,S d, .int .i64 now] z (sy z))\/
 (∃t g,s.opens C n d now=some (t,g)/\t.length<=d.length/\g.ae=s.ae/\g={s with next:=(kM s.next s.bits n).1,bits:=(kM s.next s.bits n).2}/\∀z,dN z a s->Calls prog 246 #[.pointer (some ⟨a.pr,0,none⟩), .int .i64 n,S d, .int .i64 now] z (zl z a g t)):=by
 unfold Se.opens;cases ho:s.oK now 180with
 |true=>exact Or.inl ⟨rfl,λz b=>O0 z a s b.pr now (bJ ok.born f) ho n d⟩
 |false=>
  simp only[tG,oE];rw[h.yM];cases hc:tA s.next s.bits n with
  |false=>exact Or.inl ⟨rfl,λz b=>N8 z a s b.pr b.wn now ok f ho n j hc d⟩
  |true=>
   simp only[sf];rw[h.opened];rcases D8 s.ae ok.ae s.recv [] d n pm ok.recv ut r with⟨t,e,B⟩|⟨e,c,c0,l,B⟩
   ·rw[e];refine Or.inr ⟨t,{s with next:=(kM s.next s.bits n).1,bits:=(kM s.next s.bits n).2},by rw[h.wS],by have:=Pp ok.recv e;omega,rfl,rfl,λz b=>?_⟩;refine (N9 z a s b.pr b.wn now ok f ho n j hc d t B).mono ?_;rintro e y ⟨rfl,o,p,k⟩;have q:=b.wn.kind;refine ⟨rfl,⟨(aC.grown k).bu b.se (λhm=>?_),o,p⟩,(aC.grown k).mono pu⟩;simp at hm;have:=b.se.kind;rw[hm,q]at this;exact absurd (aH this) ut
   rw[e];exact Or.inl ⟨rfl,λz b=>N7 z a s b.pr b.wn now ok f ho n j hc d c c0 l B⟩
def eN(d:Dv Bu)(p:Pe Bg)(t:af)(src:Nat):Dv Bu×Pe Bg:=
 if t=[]then(d,{p with at_:=src})else
 if t.length<4then(d,{p with at_:=src,tm:=p.tm.heard d.now})else
 if d.fB (aV (t.take 4))=some p.number then({d with aE:=d.aE++[⟨p.number,aV (t.take 4),t.drop 4⟩]},{p with at_:=src,tm:=p.tm.heard d.now})else(d,{p with at_:=src,tm:=p.tm.heard d.now})
def NM(d:Dv Bu)(p:Pe Bg)(x:Dv Bu×Pe Bg)(t:af)(src b:Nat):Dv Bu×Pe Bg:=
 if t=[]then(x.1,{x.2with at_:=src})else
 if t.length<4then(x.1,{x.2with at_:=src,tm:=x.2.tm.heard d.now})else
 if d.fB b=some p.number then({x.1with aE:=x.1.aE++[⟨p.number,b,t.drop 4⟩]},{x.2with at_:=src,tm:=x.2.tm.heard d.now})else(x.1,{x.2with at_:=src,tm:=x.2.tm.heard d.now})
def ni(p:Pe Bg)(a src now:Nat):Pe Bg:={p with aN:=p.aL,aL:=p.next,next:=none,br:=max p.br a,tm:=p.tm.made,at_:=src}
def Ib (C:Cr Bg Hd Bu)(d:Dv Bu)(p:Pe Bg)(k:Sl)(s:Se)(n:Nat)(aG:af)(src:Nat)(a:p.slot k=some s)(h:s.opens C n aG d.now=none):eO C d p k n aG src=(d,p):=by unfold eO;rw[a];dsimp only;rw[h]
def Ic (C:Cr Bg Hd Bu)(c:bD C)(d:Dv Bu)(p:Pe Bg)(k:Sl)(s b:Se)(t:af)(n:Nat)(aG:af)(src:Nat)(e:p.slot k=some s)(h:s.opens C n aG d.now=some (t,b))(a:k≠ .next):eO C d p k n aG src=eN d (p.put k b) t src:=by
 unfold eO;rw[e];dsimp only;rw[h];dsimp only;rw[au a];unfold eN;rw[c.gA];cases k
 ·rfl
 ·rfl
 exact absurd rfl a
def Ia (C:Cr Bg Hd Bu)(c:bD C)(d:Dv Bu)(p:Pe Bg)(s a:Se)(t:af)(n:Nat)(aG:af)(src:Nat)(o:p.slot .next=some s)(h:s.opens C n aG d.now=some (t,a))
 (ok:cT d.now (ni (p.put .next a) a.ae src d.now)) (e:bq K d) (l:K+4<=100000000):eO C d p .next n aG src=eN (flush C d (ni (p.put .next a) a.ae src d.now)).1 (flush C d (ni (p.put .next a) a.ae src d.now)).2 t src:=by
 obtain ⟨q,r,b,k⟩:=Dl C c ok e l;unfold eO;rw[o];dsimp only;rw[h];dsimp only;rw[av rfl];show NM d p (flush C d (ni (p.put .next a) a.ae src d.now)) t src (C.gA (t.take 4))=_;have j:p.number=(flush C d (ni (p.put .next a) a.ae src d.now)).2.number:=k.number.symm;have f:=b.now;have g:=b.fB;generalize flush C d (ni (p.put .next a) a.ae src d.now)=F at*;unfold NM eN;rw[c.gA,<-f,<-g,j]
def FG(C:Cr Bg Hd Bu)(a d:Dv Bu)(p:Pe Bg)(r:Option (af×Bg)):Dv Bu×Pe Bg:=match r with
 |none=>(a,p)
 |some (s,b)=>(a.dt p.at_ (p.marked C d s),{p with begun:=some b,dp:=d.index+1,fo:=p.marked C d s,tm:=p.tm.zB d.now})
def Sn (C:Cr Bg Hd Bu)(d:Dv Bu)(p:Pe Bg)(a:Nat)(e:a=d.dr%1000000000)(c:∀s n,C.key s n=fg s n):jK C d p=FG C {d with fresh:=d.fresh+1,index:=d.index+1,dr:=d.dr+1} d p (C.begun (min d.aj p.dj) d.own p.ag p.aD (fg d.an d.fresh) d.now a d.aj (d.index+1)):=by rw[e,<-c];unfold jK FG;rcases C.begun (min d.aj p.dj) d.own p.ag p.aD (C.key d.an d.fresh) d.now (d.dr%1000000000) d.aj (d.index+1)with _|⟨s,b⟩<;>rfl
def Df {A:DA}{d a:Dv Bu}(h:cZ z A a)(e:a={d with fresh:=d.fresh+1,index:=d.index+1,dr:=d.dr+1}):z.cell? ⟨A.dev,4,none⟩=some (.int .i64 d.aj):=by have:=ab.cell h.dv 4;rw[e]at this;exact this
def VO (C:Cr Bg Hd Bu)(hC:bD C) x0 x (A0 A:DA)(P0 P:PA)(d:Dv Bu)(p:Pe Bg)(h:St x0 A0 P0 x A P d p)(ok:cT d.now p)(K:Nat)(dk:bq K d)(hK:K+1<=100000000):
 Calls prog 121 #[ptr P.pe] x (ir x0 A0 P0 (.tuple #[]) (jK C d p).1 (jK C d p).2):=by
 obtain ⟨nN,d5⟩:=kq (d.dr%1000000000);have l3:(d.dr:Int).tmod 1000000000=(nN:Int):=by rw[Int.tmod_eq_emod_of_nonneg pm,d5];omega
 have l4:(d.dr:Int)%1000000000=(nN:Int):=by rw[d5];omega
 have j1:nN<=999999999:=pm
 have i3:=Hq d5;clear d5;have i8:d.fresh<18446744073709551615:=by have:=dk.fresh;omega
 have j0:d.fu.index<4294967295:=by show d.index<_;have:=dk.index;omega
 have l5:=dk.an;have d3:∀b∈A.fp,b<x.heap.size:=λb hb=>(h.dv.kinds b hb).2;obtain ⟨e4,cN,k9,k',a8⟩:=hC.begun (min d.aj p.dj) d.own p.ag p.aD (fg d.an d.fresh) d.now nN d.aj (d.index+1) (by rcases dk.aj with e|e<;>rcases ok.dj with e2|e2<;>rw[e,e2]<;>decide) dk.own ok.ag ok.aD (nU _ _) dk.now j1 dk.aj (by have:=dk.index;omega);obtain ⟨r,u⟩:=kq (C.begun (min d.aj p.dj) d.own p.ag p.aD (fg d.an d.fresh) d.now nN d.aj (d.index+1));rw[<-u]at e4 a8;have c':∀s b,r=some (s,b)->∀w:World,Calls prog 171 #[.agg #[.int .i64 (min d.aj p.dj:Nat),S d.own,S p.ag,S p.aD],S (fg d.an d.fresh), .agg #[.int .i64 d.now, .int .i64 nN], .int .i64 d.aj, .int .u32 ((d.index:Int)+1)] w (λe w'=>∃g,e= .returned (.tuple #[S s,ptr g, .int .i64 0])/\ab w' g 312 (tZ b)/\w.grownBy w' none/\w.heap.size<=g):=λs b e=>by rw[e]at a8;exact a8
 have e3:r=none->∀w:World,Calls prog 171 #[.agg #[.int .i64 (min d.aj p.dj:Nat),S d.own,S p.ag,S p.aD],S (fg d.an d.fresh), .agg #[.int .i64 d.now, .int .i64 nN], .int .i64 d.aj, .int .u32 ((d.index:Int)+1)] w (Grown (.tuple #[S [], .pointer none, .int .i64 cN]) w):=λe=>by rw[e]at a8;exact a8
 obtain ⟨d1,e5⟩:=kq ({d with fresh:=d.fresh+1,index:=d.index+1,dr:=d.dr+1}:Dv Bu);have b0:=Hq e5;have f2:Hid (jK C d p=FG C d1 d p r):=Hq (by rw[e5,u];exact Sn C d p nN i3.out hC.key);unfold S at c' e3;unfold ptr at c';clear u a8 e5;have H:=Hq h;clear h;unfold ptr;go_enter func121,ntmps121;go_wp2_with fail;have f8:eF 29 1001 1002 (λa b=>a.grownBy b none) (λ_ _ _=>True) [(28,λR zz=>x.heap.size<=R.g/\ab zz R.g 251 [.int .i64 0, .string ⟨#[]⟩, .string ⟨#[]⟩, .string ⟨#[]⟩])]:=⟨λ_ _ h=>h,λ_ _ _=>ai,λ_ _ _ _ _ _=>True.intro,⟨λ_ r0 _ _ h g=>⟨h.1,h.2.kept g pu⟩,True.intro⟩,λe=>absurd e ut,λe=>absurd e ut,qr⟩;apply gT f8 qr qr (True.intro);intro u0;iterate 28
  apply aX;rfl
  ·intro J b2 z0 a4 a5 a6 a0 q f u;first
    |(have l:=H.out.new f
      have e9:Value.int .i64 (min (d.aj:Int) (p.dj:Int))= .int .i64 (min d.aj p.dj:Nat):=by congr 1;omega
      go_simp
      exact aq)
    |(go_simp;exact aq)|(have l:=H.out.new f;have a9:=ab.cell l.pe.pe;have j':=ab.cell l.dv.dv;go_simp;exact aq)
  simp only[aA]
 apply jy f8 (λR=>(λg=> .pointer (some ⟨g,0,none⟩)) R.g) 0 rfl ut
 ·intro J b2 z0 a4 a5 a6 a0 q f u;have l:=H.out.new f
  go_simp
  exact gp ⟨z0.heap.size,undef⟩ (aT _ _ _) ⟨f.size,ab.new _ _ _⟩
 simp only[aA];refine pz ?_;intro z0 f hR q;obtain ⟨i0,a7⟩:=q.at (k:=0) (j:=28) rfl;generalize (u0 28).g=b6 at*;have l:=H.out.new f;have k0:=ab.cell a7 0;have k1:=ab.cell a7 1;have k2:=ab.cell a7 2;have k3:=ab.cell a7 3;have q0:=ab.frozen a7 0;have q1:=ab.frozen a7 1;have q2:=ab.frozen a7 2;have q3:=ab.frozen a7 3;have HX:=Hq l;have HB:=Hq a7;have HL:=Hq i0;have b':=Hq f;clear l f a7 i0;go_wp2_with fail;obtain ⟨y0,d6⟩:=kq ((((z0.setCell ⟨b6,0,none⟩ (.int .i64 (min d.aj p.dj:Nat))).setCell ⟨b6,1,none⟩ (.string ⟨d.own.toArray⟩)).setCell ⟨b6,2,none⟩ (.string ⟨p.ag.toArray⟩)).setCell ⟨b6,3,none⟩ (.string ⟨p.aD.toArray⟩));rw[<-d6];have c1:ab y0 b6 251 [.int .i64 (min d.aj p.dj:Nat), .string ⟨d.own.toArray⟩, .string ⟨p.ag.toArray⟩, .string ⟨p.aD.toArray⟩]:=by rw[d6];exact (((HB.out.set 0 _).set 1 _).set 2 _).set 3 _
 have b3:x.grownBy y0 none:=by rw[d6];have g0:=aw (aw (aw (aw (ak z0 (some b6)) 0 (.int .i64 (min d.aj p.dj:Nat))) 1 (.string ⟨d.own.toArray⟩)) 2 (.string ⟨p.ag.toArray⟩)) 3 (.string ⟨p.aD.toArray⟩);exact cJ b'.out g0 HL.out
 have c0:=Hq (H.out.new b3);have d9:=Hq c1;have l2:=HL.out;have j5:=b3.size;clear d6 c1 b3 HB HX HL b' k0 k1 k2 k3 q0 q1 q2 q3;have f7:eF 17 1001 1002 (λa b=>a.grownBy b none) (λ_ _ _=>True) [(16,λR zz=>y0.heap.size<=R.g/\ab zz R.g 119 [.int .i64 0, .int .i64 0])]:=⟨λ_ _ h=>h,λ_ _ _=>ai,λ_ _ _ _ _ _=>True.intro,⟨λ_ r0 _ _ h g=>⟨h.1,h.2.kept g pu⟩,True.intro⟩,λe=>absurd e ut,λe=>absurd e ut,qr⟩;apply gT f7 qr qr (True.intro);intro u0;iterate 16 (apply aX;rfl;(intro J b2 z1 a4 a5 a6 a0 q f u;first|(go_simp;exact aq)|(have l:=c0.out.new f;have a9:=ab.cell l.pe.pe;have j':=ab.cell l.dv.dv;go_simp;exact aq));simp only[aA])
 apply jy f7 (λR=>(λg=> .pointer (some ⟨g,0,none⟩)) R.g) 0 rfl ut
 ·intro J b2 z1 a4 a5 a6 a0 q f u;have l:=c0.out.new f
  go_simp
  exact gp ⟨z1.heap.size,undef⟩ (aT _ _ _) ⟨f.size,ab.new _ _ _⟩
 simp only[aA];refine pz ?_;intro z1 f hR q;obtain ⟨h',b5⟩:=q.at (k:=0) (j:=16) rfl;generalize (u0 16).g=c8 at*;have l:=c0.out.new f;have o:=d9.out.kept f pu;have k0:=ab.cell b5 0;have k1:=ab.cell b5 1;have q0:=ab.frozen b5 0;have q1:=ab.frozen b5 1;have HB:=Hq b5;have HL:=Hq h';have b':=Hq f;clear l o f b5 h';go_wp2_with fail;obtain ⟨y1,d7⟩:=kq ((z1.setCell ⟨c8,0,none⟩ (.int .i64 d.now)).setCell ⟨c8,1,none⟩ (.int .i64 nN));rw[<-d7];have c1:ab y1 c8 119 [.int .i64 d.now, .int .i64 nN]:=by rw[d7];exact (HB.out.set 0 _).set 1 _
 have b3:y0.grownBy y1 none:=by rw[d7];exact cJ b'.out (aw (aw (ak z1 (some c8)) 0 (.int .i64 d.now)) 1 (.int .i64 nN)) HL.out
 have g2:=Hq (c0.out.new b3);have f3:=Hq (d9.out.kept b3 pu);have f':=Hq c1;have l1:=HL.out;have j6:x.heap.size<=y0.heap.size:=j5;clear d7 c1 b3 HB HL b' c0 d9 k0 k1 q0 q1;have e0:eF 12 4 9 (λx y=>aC x y A.fp) (λJ b2 z=>St x0 A0 P0 z A P (cond b2 (cond J d.fu d).wo (cond J d.fu d)) p) []:=⟨λx y g=>aC.new g _,λx y z g k=>g.trans k (λi hi=>Or.inl hi),λ_ _ _ _ h g=>h.new g,True.intro,λ_=>True.intro,λ_=>True.intro,qr⟩;apply gT e0 qr qr (g2.out);intro u0;iterate 4 (apply aX;rfl;(intro J b2 z2 a4 a5 a6 a0 q f u;first|(go_simp;exact aq)|(have l:=u;have a9:=ab.cell l.pe.pe;go_simp;exact aq));simp only[aA])
 apply pn e0 qr
 ·intro J b2 z2 a4 a5 a6 a0 q f u;obtain rfl:=a5 (Or.inl rfl);obtain rfl:=a0 (Or.inr qr);have l:St x0 A0 P0 z2 A P d p:=u;have B:=xQ z2 A d l.dv i8 pm;unfold S ptr at B
  go_simp
  refine ax B λy hD=>?_;exact gw hD.only (l.sO hD)
 simp only[aA];iterate 4 (apply aX;rfl;(intro J b2 z2 a4 a5 a6 a0 q f u;first|(go_simp;exact aq)|(have l:=u;have a9:=ab.cell l.pe.pe;go_simp;exact aq));simp only[aA])
 apply PD e0 qr
 ·intro J b2 z2 a4 a5 a6 a0 q f u;obtain rfl:=a4 qr;obtain rfl:=a0 (Or.inl rfl);have l:St x0 A0 P0 z2 A P d.fu p:=u;have B:=LC z2 A d.fu l.dv j0;unfold ptr at B
  go_simp
  refine ax B λy hD=>?_;exact gw (v:= .int .u32 (d.index+1:Nat)) hD.only (l.sO hD)
 simp only[aA];iterate 2 (apply aX;rfl;(intro J b2 z2 a4 a5 a6 a0 q f u;first|(go_simp;exact aq)|(have l:=u;have a9:=ab.cell l.pe.pe;go_simp;exact aq));simp only[aA])
 refine pz ?_;intro z2 f hR q;have l:St x0 A0 P0 z2 A P d.fu.wo p:=hR;have b4:=Hq l;have f4:=Hq (f.bu f3.out (λhm=>by have:=d3 _ hm;omega));have g1:=Hq (f.bu f'.out (λhm=>by have:=d3 _ hm;have:=j6;omega));clear l hR f f3 f' g2;have k0:z2.cell? ⟨P.pe,0,none⟩=some (.pointer (some ⟨A.dev,0,none⟩)):=ab.cell b4.out.pe.pe 0;have k8:z2.cell? ⟨A.dev,8,none⟩=some (.int .i64 d.dr):=ab.cell b4.out.dv.dv 8;have q8:=ab.frozen b4.out.dv.dv 8;have gs:=aw (ak z2 (some A.dev)) 8 (.int .i64 ((d.dr:Int)+1));have g7:=b4.out.dv.put (d':={d with fresh:=d.fresh+1,index:=d.index+1,dr:=d.dr+1}) 8 (.int .i64 ((d.dr:Int)+1)) (by simp only[sM,Dv.fu,Dv.wo,ny,iD];rw[vl];rfl) rfl rfl rfl rfl;have I:=Hq (b4.out.sO g7);have c5:=Hq (f4.out.kept gs (λe=>by have:=d3 A.dev (by simp[DA.fp]);have:=aH e;omega));have c6:=Hq (g1.out.kept gs (λe=>by have:=d3 A.dev (by simp[DA.fp]);have:=aH e;omega));clear gs g7 b4 f4 g1;have j4:wrap64 ((d.dr:Int)+1)=(d.dr:Int)+1:=qO _ (by have:=dk.dr;omega);go_wp2_with fail;clear j4;obtain ⟨y3,h9⟩:=kq (z2.setCell ⟨A.dev,8,none⟩ (.int .i64 ((d.dr:Int)+1)));rw[<-h9]at I c5 c6⊢;clear h9 k0 k8 q8;rw[<-b0.out]at I;cases r with
 |none=>
  have i7:=e3 rfl;have l0:((cN:Int) !=0)=true:=by rw[dY];omega
  refine fe 19 qr qr ?_;iterate 19
   apply rn
   ·intro U f;first
     |(have l:=I.out.new f
       have o:=c5.out.kept f pu;have k0:=ab.cell o 0;have k1:=ab.cell o 1;have k2:=ab.cell o 2;have k3:=ab.cell o 3
       go_simp
       exact aq)
     |(have l:=I.out.new f
       have o:=c6.out.kept f pu;have k0:=ab.cell o 0;have k1:=ab.cell o 1
       go_simp
       exact aq)
     |(have l:=I.out.new f
       go_simp
       refine ax (i7 _) λy b7=>?_;exact gv b7)
     |(go_simp;exact aq)|(have l:=I.out.new f;have a9:=ab.cell l.pe.pe;have U:U.cell? ⟨A.dev,4,none⟩=some (.int .i64 d.aj):=(Df l.dv b0.out);go_simp;exact aq)
   simp only[aA]
  refine rz ?_;intro U f;have l:=I.out.new f;clear f;go_wp2_with fail;first|go_end0|refine bodyPost_ret (rX rfl _ _ _) rfl ?_
  rw[f2.out];exact ⟨rfl,A,P,l⟩
 |some sb=>
  obtain ⟨s,b⟩:=sb;have a8:=c' s b rfl;have f6:eF 19 1001 1002 (λa b=>a.grownBy b none) (λ_ _ _=>True) [(11,λR zz=>(λv z=>∃g,v= .pointer (some ⟨g,0,none⟩)/\ab z g 312 (tZ b)/\y3.heap.size<=g) R.v zz)]:=⟨λ_ _ h=>h,λ_ _ _=>ai,λ_ _ _ _ _ _=>True.intro,⟨λ_ ⟨_,v⟩ x y h g=>h.imp λk hk=>⟨hk.1,hk.2.1.kept g pu,hk.2.2⟩,True.intro⟩,λe=>absurd e ut,λe=>absurd e ut,qr⟩;apply gT f6 qr qr (True.intro);intro u0;iterate 11
   apply aX;rfl
   ·intro J b2 U a4 a5 a6 a0 q f u;first
     |(have l:=I.out.new f
       have o:=c5.out.kept f pu;have k0:=ab.cell o 0;have k1:=ab.cell o 1;have k2:=ab.cell o 2;have k3:=ab.cell o 3
       go_simp
       exact aq)
     |(have l:=I.out.new f
       have o:=c6.out.kept f pu;have k0:=ab.cell o 0;have k1:=ab.cell o 1
       go_simp
       exact aq)
     |(go_simp;exact aq)|(have l:=I.out.new f;have a9:=ab.cell l.pe.pe;have U:U.cell? ⟨A.dev,4,none⟩=some (.int .i64 d.aj):=(Df l.dv b0.out);go_simp;exact aq)
   simp only[aA]
  apply jy f6 (λR=>(λv=> .tuple #[.string ⟨s.toArray⟩,v, .int .i64 0]) R.v) 0 rfl ut
  ·intro J b2 U a4 a5 a6 a0 q f u;have l:=I.out.new f
   go_simp
   refine (a8 _).mono ?_;rintro e y ⟨g,rfl,hb,b7,i9⟩;exact gp ⟨0, .pointer (some ⟨g,0,none⟩)⟩ b7 ⟨g,rfl,hb,bJ f.size i9⟩
  simp only[aA];apply qv 11 (λR=>(λv=> .tuple #[.string ⟨s.toArray⟩,v, .int .i64 0]) R.v);kernel_rfl
  ·intro J b2 U a4 a5 a6 a0 q f u;have b9:=q.at (k:=0) (j:=11) rfl qr;generalize (u0 11).v=c4 at*;have l:=I.out.new f
   go_simp
   exact aq
  simp only[aA];apply aX;rfl
  ·intro J b2 U a4 a5 a6 a0 q f u;have b9:=q.at (k:=0) (j:=11) rfl qr;generalize (u0 11).v=c4 at*;have l:=I.out.new f
   go_simp
   exact aq
  simp only[aA];apply qv 11 (λR=>R.v);kernel_rfl
  ·intro J b2 U a4 a5 a6 a0 q f u;have b9:=q.at (k:=0) (j:=11) rfl qr;generalize (u0 11).v=c4 at*;have l:=I.out.new f
   go_simp
   exact aq
  simp only[aA];iterate 2
   apply aX;rfl
   ·intro J b2 U a4 a5 a6 a0 q f u;first
     |(have b9:=q.at (k:=0) (j:=11) rfl qr
       generalize (u0 11).v=c4 at*;have l:=I.out.new f
       go_simp
       exact aq)
     |(go_simp;exact aq)|(have l:=I.out.new f;have a9:=ab.cell l.pe.pe;have U:U.cell? ⟨A.dev,4,none⟩=some (.int .i64 d.aj):=(Df l.dv b0.out);go_simp;exact aq)
   simp only[aA]
  apply qv 11 (λR=>R.v);kernel_rfl
  ·intro J b2 U a4 a5 a6 a0 q f u;have b9:=q.at (k:=0) (j:=11) rfl qr;generalize (u0 11).v=c4 at*;have l:=I.out.new f
   go_simp
   exact aq
  simp only[aA];apply aX;rfl;·(intro J b2 U a4 a5 a6 a0 q f u;first|(go_simp;exact aq)|(have l:=I.out.new f;have a9:=ab.cell l.pe.pe;have U:U.cell? ⟨A.dev,4,none⟩=some (.int .i64 d.aj):=(Df l.dv b0.out);go_simp;exact aq))
  simp only[aA];refine pz ?_;intro U f hR q;have b9:=q.at (k:=0) (j:=11) rfl;generalize (u0 11).v=c4 at*;obtain ⟨gb,i5,h0,h6⟩:=b9;subst i5;have l:=I.out.new f;have c7:=Hq l;have f0:=Hq h0;have h8:=I.out.only.size;have i':x0.heap.size<=gb:=bJ h8 h6;clear l f h0 h8 h6 I c5 c6;have h7:s.length<=2000:=by have:=(e4 s b rfl).1;omega
  have e7:d1.now=d.now:=by rw[b0.out]
  have i1:cT d1.now p:=by rw[e7];exact ok
  have B6:=Mg U A P d1 p c7.out.dv c7.out.pe i1 s h7;rw[e7,<-hC.mark]at B6;obtain ⟨V,hV⟩:=kq (p.marked C d s);have g9:C.mark p.ag (if p.eQ<d.now then []else p.ew) s=V:=by rw[hV];rfl
  rw[g9]at B6;have HV:=Hq hV;clear hV g9 h7;unfold Grown S ptr at B6;clear i1 e4 c' e3 a8;go_wp2_with fail;refine ax B6 λy4 e6=>?_;have a':=c7.out.new e6;have g3:=Hq a';have f1:=Hq (f0.out.kept e6 pu);have j7:=ab.cell a'.pe.pe 14;have j8:=ab.cell a'.pe.pe 15;have j9:=ab.cell a'.pe.pe 16;have k4:=ab.frozen a'.pe.pe 14;have k5:=ab.frozen a'.pe.pe 15;have k6:=ab.frozen a'.pe.pe 16;clear a' e6 c7 f0 B6;go_wp2_with fail;obtain ⟨y5,e'⟩:=kq (((y4.setCell ⟨P.pe,14,none⟩ (.pointer (some ⟨gb,0,none⟩))).setCell ⟨P.pe,15,none⟩ (.int .u32 ((d.index:Int)+1))).setCell ⟨P.pe,16,none⟩ (.string ⟨V.toArray⟩));rw[<-e'];obtain ⟨P2,c9⟩:=kq ({P with begun:=some gb}:PA);obtain ⟨p2,c3⟩:=kq ({p with begun:=some b,dp:=d.index+1,fo:=V}:Pe Bg);have h5:St x0 A0 P0 y5 A P2 d1 p2:=by
   have h:=g3.out;have h1:=h.write (P':={P with begun:=some gb}) (p':={p with begun:=some b}) 14 (.pointer (some ⟨gb,0,none⟩)) rfl rfl rfl rfl h.pe.waits f1.out h.pe.aN h.pe.aL h.pe.next h.pe.a1 h.pe.a2 h.pe.a3 (λc o=>by
    simp only[PA.fp,Option.toList,bG,bp,dD,dH]at o⊢;rcases o with((((o|o)|o)|o)|o)|o
    ·exact Or.inl (Or.inl (Or.inl (Or.inl (Or.inl (Or.inl o)))))
    ·exact Or.inl (Or.inl (Or.inl (Or.inl (Or.inl (Or.inr o)))))
    ·rw[o];exact Or.inr (Or.inr (Or.inr i'))
    ·exact Or.inl (Or.inl (Or.inl (Or.inr o)))
    ·exact Or.inl (Or.inl (Or.inr o))
    exact Or.inl (Or.inr o))
   have h2:=h1.put (p':={p with begun:=some b,dp:=d.index+1}) 15 (.int .u32 (d.index+1:Nat)) rfl rfl rfl rfl rfl rfl rfl;have h3:=h2.put (p':={p with begun:=some b,dp:=d.index+1,fo:=V}) 16 (S V) rfl rfl rfl rfl rfl rfl rfl;rw[e',c9,c3];exact h3
  have c2:P2.pe=P.pe:=by rw[c9]
  have i6:P2.tm=P.tm:=by rw[c9]
  have g':p2.at_=p.at_:=by rw[c3]
  have h4:p2.fo=V:=by rw[c3]
  have f9:=Hq c3;have e1:=Hq h5;clear e' c9 c3 h5 g3 f1 j7 j8 j9 k4 k5 k6;refine fe 12 qr qr ?_;iterate 12 (apply rn;(intro x7 f;first|(go_simp;exact aq)|(have l:=e1.out.new f;have z0:x7.cell? ⟨P.pe,0,none⟩=some (.pointer (some ⟨A.dev,0,none⟩)):=(c2▸ab.cell l.pe.pe 0);have z5:x7.cell? ⟨P.pe,5,none⟩=some (.int .u32 p.at_):=(c2▸g'▸ab.cell l.pe.pe 5);have l8:x7.cell? ⟨P.pe,16,none⟩=some (.string ⟨V.toArray⟩):=(c2▸h4▸ab.cell l.pe.pe 16);go_simp;exact aq));simp only[aA])
  refine rz ?_;intro x7 f;have l:=e1.out.new f;have B:=CQ x7 A d1 l.dv p.at_ V (by rw[b0.out];have:=dk.out;have:=dk.K;show d.out.length<=_;omega);have g4:=Hq l;unfold S ptr at B;clear l f;go_wp2_with fail;refine B.mono ?_;rintro e y7 ⟨rfl,A2,hD⟩;obtain ⟨d2,d0⟩:=kq (d1.dt p.at_ V);rw[<-d0]at hD;have e8:d2.now=d.now:=by rw[d0];unfold Dv.dt;split<;>exact e7
  have j2:d2.now<=1099511627776:=by rw[e8];exact dk.now
  have j3:p2.tm.tries<=1000:=by rw[f9.out];have:=ok.tries;show p.tm.tries<=1000;omega
  have f5:=Hq d0;have i2:=Hq e8;clear e8;have g5:=Hq (g4.out.sO hD);clear d0 hD g4 B e1;rw[<-c2];clear c2 i6 g' h4;go_wp2_with fail;refine fe 11 qr qr ?_;iterate 11 (apply rn;(intro k7 d4;first|(go_simp;exact aq)|(have b8:=g5.out.new d4;have a9:=ab.cell b8.pe.pe;have l6:=ab.cell b8.dv.dv;go_simp;exact aq));simp only[aA])
  refine rz ?_;intro k7 d4;have b8:=g5.out.new d4;have d8:=(Xi _ P2.tm _ d2.now b8.pe.tm j2 j3);unfold kB at d8;have g6:=Hq b8;clear b8 d4;go_wp2_with fail;refine d8.mono ?_;rintro e l7 ⟨rfl,g8,b7⟩;have i4:=Hq (g6.out.timer (t:=(p2.tm.zB d2.now)) g8 b7);clear g8 b7 g6 d8;go_wp2_with fail;first|go_end0|refine bodyPost_ret (rX rfl _ _ _) rfl ?_
  rw[f2.out];have e:=i4.out;rw[f5.out]at e;have en:(d1.dt p.at_ V).now=d.now:=by rw[<-f5.out];exact i2.out
  rw[en,f9.out,HV.out]at e;exact ⟨rfl,A2,P2,e⟩
def Re {d:Dv Bu}{p:Pe Bg}(h:pA d p=true):p.aL≠none:=by intro e;unfold pA at h;rw[e]at h;exact Bool.noConfusion h
def WX (C:Cr Bg Hd Bu)(d:Dv Bu)(p:Pe Bg)(k:Int)(a:(p.tm.kL d.now:Int)=k):
 (k=0->eJ C d p=(d,p))/\(k=1->p.at_=0->eJ C d p=(d,p))/\(k=1->p.at_≠0->eJ C d p=jK C d p)/\
 (k=2->pA d p=false->eJ C d p=(d,{p with tm:=p.tm.du}))/\(k=2->pA d p=true->eJ C d p=du C d p [])/\
 (k=3->eJ C d p=(d,{p with waits:=[],begun:=none,tm:=Ti.zero})):=by
 unfold eJ;subst a;refine ⟨λe=>?_,λe h=>?_,λe h=>?_,λe h=>?_,λe h=>?_,λe=>?_⟩
 ·have:p.tm.kL d.now=0:=pm
  rw[this];rfl
 ·have:p.tm.kL d.now=1:=pm
  rw[this,av rfl,av h]
 ·have:p.tm.kL d.now=1:=pm
  rw[this,av rfl,au h]
 ·have:p.tm.kL d.now=2:=pm
  rw[this,h];rfl
 ·have:p.tm.kL d.now=2:=pm
  rw[this,h];rfl
 have:p.tm.kL d.now=3:=pm
 rw[this];rfl
def CY (C:Cr Bg Hd Bu)(hC:bD C) x0 x (I A:DA)(R P:PA)(d:Dv Bu)(p:Pe Bg)(h:St x0 I R x A P d p)(ok:cT d.now p)(K:Nat)(dk:bq K d)(hK:K+1<=100000000):
 Calls prog 74 #[ptr P.pe] x (ir x0 I R (.tuple #[]) (eJ C d p).1 (eJ C d p).2):=by
 have a0:=dk.now;have b1:p.tm.last<=1099511627776:=bJ ok.last a0;have b3:p.tm.since<=1099511627776:=bJ ok.since a0;obtain ⟨k,hk⟩:∃k:Int,(p.tm.kL d.now:Int)=k:=⟨_,rfl⟩;have HK:=Hq hk;have b0:k=0\/k=1\/k=2\/k=3:=by
  rw[<-hk];have:p.tm.kL d.now<=3:=by unfold Ti.kL;(repeat' split)<;>omega
  omega
 have v:=Hq (WX C d p k hk);clear hk;have H:=Hq h;clear h;unfold ptr;go_enter func74,ntmps74;go_wp2_with fail;refine fe 11 qr qr ?_;iterate 11 (apply rn;(intro x1 hg;first|(go_simp;exact aq)|(have w:=H.out.new hg;have b6:=ab.cell w.pe.pe;have a9:=ab.cell w.dv.dv;go_simp;exact aq));simp only[aA])
 refine rz ?_;intro x1 hg;have w:=H.out.new hg;have B:=abL x1 P.tm p.tm d.now w.pe.tm b1 b3;rw[HK.out]at B;have HX:=Hq w;clear w hg;go_wp2_with fail;refine ax B λy c=>?_;have f:=Hq (HX.out.new c);clear c B HX;have c5:y.cell? ⟨P.pe,5,none⟩=some (.int .u32 p.at_):=ab.cell f.out.pe.pe 5;rcases b0 with e|e|e|e
 ·subst e;have j:=Hq (v.out.1 rfl);go_wp2_with fail;first|go_end0|refine bodyPost_ret (rX rfl _ _ _) rfl ?_
  rw[j.out];exact ⟨rfl,A,P,f.out⟩
 ·subst e;by_cases a4:p.at_=0
  ·have j:=Hq (v.out.2.1 rfl a4);have a:((p.at_:Int) !=0)=false:=(by rw[a4];rfl);go_wp2_with fail;first|go_end0|refine bodyPost_ret (rX rfl _ _ _) rfl ?_
   rw[j.out];exact ⟨rfl,A,P,f.out⟩
  have j:=Hq (v.out.2.2.1 rfl a4);have a:((p.at_:Int) !=0)=true:=by rw[dY];omega
  have B:=VO C hC x0 y I A R P d p f.out ok K dk hK;unfold ir ptr at B;clear a4;go_wp2_with fail;refine B.mono ?_;rintro e y2 ⟨rfl,A2,s,u⟩;have HH:=Hq u;clear u B;go_wp2_with fail;first|go_end0|refine bodyPost_ret (rX rfl _ _ _) rfl ?_
  rw[j.out];exact ⟨rfl,A2,s,HH.out⟩
 ·subst e;have B:=Mn y A P d p f.out.dv f.out.pe ok a0;unfold ptr at B;rcases hu:pA d p with _|_
  ·rw[hu]at B;have j:=Hq (v.out.2.2.2.1 rfl hu);clear hu;go_wp2_with fail;refine ax B λy2 c=>?_;have r:=Hq (f.out.new c);clear c B f c5;go_wp2_with fail;refine fe 11 qr qr ?_;iterate 11 (apply rn;(intro b' l;first|(go_simp;exact aq)|(have g:=r.out.new l;have b6:=ab.cell g.pe.pe;have a9:=ab.cell g.dv.dv;go_simp;exact aq));simp only[aA])
   refine rz ?_;intro b' l;have g:=r.out.new l;have q:=(MP _ P.tm _ d.now g.pe.tm a0);unfold kB at q;have J:=Hq g;clear g l;go_wp2_with fail;refine q.mono ?_;rintro e c2 ⟨rfl,U,c⟩;have HT:=Hq (J.out.timer (t:=p.tm.du) U c);clear U c J q;go_wp2_with fail;first|go_end0|refine bodyPost_ret (rX rfl _ _ _) rfl ?_
   rw[j.out];exact ⟨rfl,A,P,HT.out⟩
  rw[hu]at B;have j:=Hq (v.out.2.2.2.2.1 rfl hu);have b2:=Hq (Re hu);clear hu;go_wp2_with fail;refine ax B λy2 c=>?_;have r:=Hq (f.out.new c);clear c B f c5;have B:=CZ C hC x0 y2 I A R P d p r.out ok K dk b2.out [] ut;unfold ir ptr S at B;go_wp2_with fail;refine B.mono ?_;rintro e y3 ⟨rfl,A2,s,u⟩;have HH:=Hq u;clear u B;go_wp2_with fail;first|go_end0|refine bodyPost_ret (rX rfl _ _ _) rfl ?_
  rw[j.out];exact ⟨rfl,A2,s,HH.out⟩
 subst e;have j:=Hq (v.out.2.2.2.2.2 rfl);have hy:=f.out;have b4:=ab.cell hy.pe.pe 13;have b5:=ab.cell hy.pe.pe 14;have b7:=ab.frozen hy.pe.pe 13;have b8:=ab.frozen hy.pe.pe 14;clear hy;go_wp2_with fail;obtain ⟨y5,a7⟩:=kq ((y.setCell ⟨P.pe,13,none⟩ (.slice none 0 0)).setCell ⟨P.pe,14,none⟩ (.pointer none));rw[<-a7];obtain ⟨s,a5⟩:=kq ({P with waits:= .slice none 0 0,begun:=none}:PA);obtain ⟨p2,a6⟩:=kq ({p with waits:=[],begun:=none}:Pe Bg);have h5:St x0 I R y5 A s d p2:=by
  have h:=f.out;have o:=h.write (P':={P with waits:= .slice none 0 0}) (p':={p with waits:=[]}) 13 (.slice none 0 0) rfl rfl rfl rfl (nX _ _ _) h.pe.begun h.pe.aN h.pe.aL h.pe.next h.pe.a1 h.pe.a2 h.pe.a3 (λb a=>by
   left;simp only[PA.fp,Value.ownBlock,Option.toList,ev,bG,bp,dD,dH]at a⊢;rcases a with(((a|a)|a)|a)|a
   ·exact Or.inl (Or.inl (Or.inl (Or.inl (Or.inl a))))
   ·exact Or.inl (Or.inl (Or.inl (Or.inr a)))
   ·exact Or.inl (Or.inl (Or.inr a))
   ·exact Or.inl (Or.inr a)
   exact Or.inr a)
  have u:=o.write (P':={P with waits:= .slice none 0 0,begun:=none}) (p':={p with waits:=[],begun:=none}) 14 (.pointer none) rfl rfl rfl rfl o.pe.waits True.intro o.pe.aN o.pe.aL o.pe.next o.pe.a1 o.pe.a2 o.pe.a3 (λb a=>by
   left;simp only[PA.fp,Value.ownBlock,Option.toList,ev,bG,bp,dD,dH]at a⊢;rcases a with((a|a)|a)|a
   ·exact Or.inl (Or.inl (Or.inl (Or.inl a)))
   ·exact Or.inl (Or.inl (Or.inr a))
   ·exact Or.inl (Or.inr a)
   exact Or.inr a)
  rw[a7,a5,a6];exact u
 have a8:s.pe=P.pe:=by rw[a5]
 have a':=Hq a6;have r:=Hq h5;clear a7 a5 a6 h5 b4 b5 b7 b8 c5 f;rw[<-a8];clear a8;go_wp2_with fail;refine fe 11 qr qr ?_;iterate 11 (apply rn;(intro b9 l;first|(go_simp;exact aq)|(have g:=r.out.new l;have c0:=ab.cell g.pe.pe;have a9:=ab.cell g.dv.dv;go_simp;exact aq));simp only[aA])
 refine rz ?_;intro b9 l;have g:=r.out.new l;have q:=(Xj _ s.tm _ d.now g.pe.tm a0);unfold kB at q;have J:=Hq g;clear g l;go_wp2_with fail;refine q.mono ?_;rintro e c1 ⟨rfl,U,c⟩;have HT:=Hq (J.out.timer (t:=Ti.zero) U c);clear U c J q;go_wp2_with fail;first|go_end0|refine bodyPost_ret (rX rfl _ _ _) rfl ?_
 rw[j.out];rw[a'.out]at HT;exact ⟨rfl,A,_,HT.out⟩
def tW(x0:World)(a:DA)(b:PA)(d:Dv Bu)(p:Pe Bg)(e:Ending)(y:World):Prop:=(∃c:Int,e= .returned (.int .i64 c))/\∃A P,St x0 a b y A P d p
def VR (C:Cr Bg Hd Bu) x0 x (A0 A:DA)(P0 P:PA)(d:Dv Bu)(p:Pe Bg)(h:St x0 A0 P0 x A P d p)(k:Sl)(a:SA)(s:Se)(hP:P.slot k=some a)(hp:p.slot k=some s)(n:Nat)(aG:af)(src:Nat)
 (a3:s.opens C n aG d.now=none) (ho:∀z,dN z a s->Calls prog 246 #[.pointer (some ⟨a.pr,0,none⟩), .int .i64 n,S aG, .int .i64 d.now] z (sy z)):
 Calls prog 186 #[ptr P.pe,ptr a.se, .int .i64 n,S aG, .int .u32 src] x (tW x0 A0 P0 (eO C d p k n aG src).1 (eO C d p k n aG src).2):=by
 rw[Ib C d p k s n aG src hp a3];have H:=Hq h;have HO:=Hq ho;have HP:=Hq hP;have Hp:=Hq hp;clear h ho a3 hP hp;unfold ptr S tW;go_enter func186,ntmps186;go_wp2_with fail;have a1:eF 19 1001 1002 (λa b=>a.grownBy b none) (λ_ _ _=>True) [(13,λo zz=>(λv z=>∃c:Nat,c≠0/\c<=15/\v= .int .i64 c) o.v zz)]:=⟨λ_ _ h=>h,λ_ _ _=>ai,λ_ _ _ _ _ _=>True.intro,⟨λ_ _ _ _ h _=>h,True.intro⟩,λe=>absurd e ut,λe=>absurd e ut,qr⟩;apply gT a1 qr qr (True.intro);intro U;iterate 13 (apply aX;rfl;(intro q r x1 t u w I l f J;first|(go_simp;exact aq)|(have g:=H.out.new f;have a7:=ab.cell (g.at_slot HP.out Hp.out).se;have a6:=ab.cell g.pe.pe;have a5:=ab.cell g.dv.dv;go_simp;exact aq));simp only[aA])
 apply jy a1 (λo=>(λv=> .tuple #[.string ⟨#[]⟩,v]) o.v) 0 rfl ut
 ·intro q r x1 t u w I l f J;have g:=H.out.new f;have g:=H.out.new f;have B:=HO.out x1 (g.at_slot HP.out Hp.out);unfold sy S at B
  go_simp
  refine B.mono ?_;rintro e y ⟨c,c0,a2,rfl,hy⟩;exact gp ⟨0, .int .i64 c⟩ hy ⟨c,c0,a2,rfl⟩
 simp only[aA];apply qv 13 (λo=>(λv=> .tuple #[.string ⟨#[]⟩,v]) o.v);kernel_rfl
 ·intro q r x1 t u w I l f J;have R:=l.at (k:=0) (j:=13) rfl qr;generalize (U 13).v=a0 at*;have g:=H.out.new f
  go_simp
  exact aq
 simp only[aA];apply aX;rfl
 ·intro q r x1 t u w I l f J;have R:=l.at (k:=0) (j:=13) rfl qr;generalize (U 13).v=a0 at*;have g:=H.out.new f
  go_simp
  exact aq
 simp only[aA];apply qv 13 (λo=>o.v);kernel_rfl
 ·intro q r x1 t u w I l f J;have R:=l.at (k:=0) (j:=13) rfl qr;generalize (U 13).v=a0 at*;have g:=H.out.new f
  go_simp
  exact aq
 simp only[aA];apply aX;rfl;·(intro q r x1 t u w I l f J;first|(go_simp;exact aq)|(have g:=H.out.new f;have a7:=ab.cell (g.at_slot HP.out Hp.out).se;have a6:=ab.cell g.pe.pe;have a5:=ab.cell g.dv.dv;go_simp;exact aq))
 simp only[aA];apply qv 13 (λo=>o.v);kernel_rfl
 ·intro q r x1 t u w I l f J;have R:=l.at (k:=0) (j:=13) rfl qr;generalize (U 13).v=a0 at*;have g:=H.out.new f
  go_simp
  exact aq
 simp only[aA];refine pz ?_;intro x1 f hR l;have R:=l.at (k:=0) (j:=13) rfl;generalize (U 13).v=a0 at*;obtain ⟨c,c0,a2,a4⟩:=R;subst a4;have g:=H.out.new f;have HX:=Hq g;clear g f;have a8:((c:Int) !=0)=true:=by rw[dY];omega
 go_wp2_with fail;first|go_ret|(refine bodyPost_ret (results_one rfl _ _ _) rfl ?_)
 exact ⟨⟨_,rfl⟩,A,P,HX.out⟩
def VS (C:Cr Bg Hd Bu)(hC:bD C) x0 x (A0 A:DA)(P0 P:PA)(d:Dv Bu)(p:Pe Bg)(h:St x0 A0 P0 x A P d p)(K:Nat)(dk:bq K d)(k:Sl)(d3:k≠ .next)(a:SA)(s s1:Se)(t:af)(hP:P.slot k=some a)(hp:p.slot k=some s)(n:Nat)(aG:af)(src:Nat)
 (f4:s.opens C n aG d.now=some (t,s1)) (h4:t.length<=2016) (ho:∀z,dN z a s->Calls prog 246 #[.pointer (some ⟨a.pr,0,none⟩), .int .i64 n,S aG, .int .i64 d.now] z (zl z a s1 t)):
 Calls prog 186 #[ptr P.pe,ptr a.se, .int .i64 n,S aG, .int .u32 src] x (tW x0 A0 P0 (eO C d p k n aG src).1 (eO C d p k n aG src).2):=by
 have a1:=Hq (Ic C hC d p k s s1 t n aG src hp f4 d3);have H:=Hq h;have HO:=Hq ho;have HP:=Hq hP;have Hp:=Hq hp;have f3:=dk.now;clear h ho hP hp f4;unfold ptr S tW;go_enter func186,ntmps186;go_wp2_with fail;have e2:eF 19 13 1002 (λx y=>aC x y [a.pr,a.wn]) (λU b2 z=>St x0 A0 P0 z A P d (cond U (p.put k s1) p)) []:=⟨λx y g=>aC.new g _,λx y z g k=>g.trans k (λi hi=>Or.inl hi),λ_ _ _ _ h g=>h.new g,True.intro,λ_=>True.intro,λe=>absurd e ut,qr⟩;apply gT e2 qr qr (H.out);intro u0;iterate 13 (apply aX;rfl;(intro U b2 x1 a2 a0 a3 a4 u r f;first|(go_simp;exact aq)|(have w:=f;have z0:x1.cell? ⟨a.se,0,none⟩=some (.pointer (some ⟨a.pr,0,none⟩)):=(St.Ei w HP.out Hp.out);have g7:=ab.cell w.pe.pe;have g6:=ab.cell w.dv.dv;go_simp;exact aq));simp only[aA])
 apply pn e2 qr
 ·intro U b2 x1 a2 a0 a3 a4 u r f;obtain rfl:=a0 (Or.inl rfl);have w:St x0 A0 P0 x1 A P d p:=f;have B:=HO.out x1 (w.at_slot HP.out Hp.out);unfold zl S at B
  go_simp
  refine B.mono ?_;rintro e y ⟨rfl,g4,ho⟩;exact gw ho (w.slot k HP.out Hp.out g4 ho)
 simp only[aA];iterate 5 (apply aX;rfl;(intro U b2 x1 a2 a0 a3 a4 u r f;first|(go_simp;exact aq)|(have w:=f;have z0:x1.cell? ⟨a.se,0,none⟩=some (.pointer (some ⟨a.pr,0,none⟩)):=(St.Ei w HP.out Hp.out);have g7:=ab.cell w.pe.pe;have g6:=ab.cell w.dv.dv;go_simp;exact aq));simp only[aA])
 refine pz ?_;intro x1 r hR u;have w:St x0 A0 P0 x1 A P d (p.put k s1):=hR;have HT:=Hq w;clear w hR r;have h0:=Y5 (k:=k) HT.out.pe HP.out (IW p k s1) d3;have f8:x1.cell? ⟨P.pe,19,none⟩=some (dO (P.next.map SA.se)):=ab.cell HT.out.pe.pe 19;obtain ⟨l,e7⟩:=kq A;obtain ⟨I,b'⟩:=kq P;obtain ⟨c,b3⟩:=kq d;obtain ⟨J,d5⟩:=kq (p.put k s1);have e3:Hid (St x0 A0 P0 x1 l I c J):=Hq (by rw[e7,b',b3,d5];exact HT.out);have e0:Hid (eO C d p k n aG src=eN c J t src):=Hq (by rw[b3,d5];exact a1.out);have f3:c.now<=1099511627776:=by rw[b3];exact dk.now
 have g0:c.aE.length<=1000000000:=by rw[b3];have:=dk.aE;have:=dk.K;omega
 clear HT a1 b3 d5 e7;have HT:=e3;have a1:=e0;clear e3 e0;generalize dO (P.next.map SA.se)=vn at*;rw[<-b'];rw[<-b']at f8;clear b' d3;have ht:=HT.out;have k5:=ab.cell ht.pe.pe 5;have q5:=ab.frozen ht.pe.pe 5;have h3:=ht.put (p':={J with at_:=src}) 5 (.int .u32 src) rfl rfl rfl rfl rfl rfl rfl;obtain ⟨p3,d6⟩:=kq ({J with at_:=src}:Pe Bg);rw[<-d6]at h3;have a5:=Hq d6;have c':=Hq h3;clear ht d6 h3;by_cases a':t=[]
 ·have g5:List.isEmpty t=true:=by rw[a'];rfl
  have a7:=Hq a';clear a';go_wp2_with fail;first|go_ret|fail
  rw[a1.out];have e:eN c J t src=(c,p3):=by rw[a5.out];unfold eN;rw[av a7.out]
  rw[e];exact ⟨⟨_,rfl⟩,l,I,c'.out⟩
 have g5:List.isEmpty t=false:=by cases t with|nil=>exact absurd rfl a'|cons a b=>rfl
 have a7:=Hq a';clear a';go_wp2_with fail;refine fe 11 qr qr ?_;iterate 11 (apply rn;(intro g9 c4;first|(go_simp;exact aq)|(have b0:=c'.out.new c4;have d9:=ab.cell b0.pe.pe;have d8:=ab.cell b0.dv.dv;go_simp;exact aq));simp only[aA])
 refine rz ?_;intro g9 c4;have b0:=c'.out.new c4;have c6:=(MN _ I.tm _ c.now b0.pe.tm f3);unfold kB at c6;have e5:=Hq b0;clear b0 c4;go_wp2_with fail;refine c6.mono ?_;rintro e b7 ⟨rfl,e',f0⟩;have e4:=Hq (e5.out.timer (t:=(p3.tm.heard c.now)) e' f0);clear e' f0 e5 c6;obtain ⟨o,d7⟩:=kq ({p3 with tm:=p3.tm.heard c.now}:Pe Bg);have a8:Hid (St x0 A0 P0 b7 l I c o):=Hq (by rw[d7];exact e4.out);have a6:=Hq d7;clear d7 e4;by_cases g1:t.length<4
 ·have hd:decide ((t.length:Int)<4)=true:=pp
  go_wp2_with fail;first|go_ret|fail
  rw[a1.out];have e:eN c J t src=(c,o):=by rw[a6.out,a5.out];unfold eN;rw[au a7.out,av g1]
  rw[e];exact ⟨⟨_,rfl⟩,l,I,a8.out⟩
 have hd:decide ((t.length:Int)<4)=false:=pp
 have h1:4<=t.length:=pm
 have rx:=dP t 0 4;rw[oA]at rx;have BB:=yP b7 (t.take 4) (by rw[aJ];omega);have f2:aV (t.take 4)<4294967296:=fW (ua _) (lI pm (by rw[aJ];omega):256^(t.take 4).length<=256^4);obtain ⟨nB,d4⟩:=kq (aV (t.take 4));rw[<-d4]at BB f2;have c9:=Hq d4;clear d4;unfold S at BB;have hm:(nB:Int)%4294967296=(nB:Int):=pm
 have c0:b7.cell? ⟨I.pe,0,none⟩=some (.pointer (some ⟨l.dev,0,none⟩)):=ab.cell a8.out.pe.pe 0;have f7:b7.cell? ⟨l.dev,12,none⟩=some (.pointer (some ⟨l.tb,0,none⟩)):=ab.cell a8.out.dv.dv 12;have BR:=Gz b7 l c a8.out.dv nB f2;go_wp2_with fail;refine BB.mono ?_;rintro e w' ⟨rfl,rfl⟩;clear BB rx;go_wp2_with fail;refine ax BR λyR f1=>?_;have a9:=Hq (a8.out.new f1);clear f1 a8 BR c0 f7 hm;have c2:yR.cell? ⟨I.pe,2,none⟩=some (.int .i64 o.number):=ab.cell a9.out.pe.pe 2;rcases hrt:c.fB nB with _|m
 ·have b8:=Hq hrt;clear hrt;go_wp2_with fail;first|go_ret|fail
  rw[a1.out];have e:eN c J t src=(c,o):=by rw[a6.out,a5.out];unfold eN;rw[au a7.out,au pm,<-c9.out,b8.out,au (λh=>by cases h)]
  rw[e];exact ⟨⟨_,rfl⟩,l,I,a9.out⟩
 have b8:=Hq hrt;clear hrt;by_cases b4:m=o.number
 ·have f9:((m:Int) !=(o.number:Int))=false:=by rw[b4];simp
  have c8:=Hq b4;clear b4;go_wp2_with fail;have f':∀b∈l.fp,b<yR.heap.size:=λb q=>(a9.out.dv.kinds b q).2;have c7:eF 23 20 1002 (λx y=>aC x y l.fp) (λ_ _ z=>St x0 A0 P0 z l I c o) [(19,λrr zz=>yR.heap.size<=rr.g/\ab zz rr.g 54 (nZ ⟨o.number,nB,t.drop 4⟩)),(20,λrr zz=>(sq yR.heap.size l.aE (c.aE++[⟨o.number,nB,t.drop 4⟩])) rr.v zz)]:=⟨λx y g=>aC.new g _,λx y z g k=>g.trans k (λi hi=>Or.inl hi),λ_ _ x y h g=>h.new g,⟨λ_ r0 _ _ h g=>⟨h.1,h.2.kept g pu⟩,λ_ r0 a b h g=>(sq.mono) r0.v a b h g,True.intro⟩,λ_=>⟨λ_ r0 _ _ h g=>FP f' h g,λe=>absurd rfl e,True.intro⟩,λe=>absurd e ut,qr⟩;apply gT c7 qr qr (a9.out);intro u0;iterate 17 (apply aX;rfl;(intro U b2 R a2 a0 a3 a4 u r f;first|(go_simp;exact aq)|(have d9:=ab.cell f.pe.pe;have d8:=ab.cell f.dv.dv;go_simp;exact aq));simp only[aA])
  apply aX;rfl
  ·intro U b2 R a2 a0 a3 a4 u r f;have e9:(ByteArray.mk t.toArray).extract 4 t.length=⟨(t.drop 4).toArray⟩:=(by rw[dP,cE pu]);have h2:(4:Int)<=(t.length:Int):=pm
   go_simp
   exact aq
  simp only[aA];apply aX;rfl;·(intro U b2 R a2 a0 a3 a4 u r f;first|(go_simp;exact aq)|(have d9:=ab.cell f.pe.pe;have d8:=ab.cell f.dv.dv;go_simp;exact aq))
  simp only[aA];apply jy c7 (λrr=>(λg=> .slice (some ⟨g,0,none⟩) 1 1) rr.g) 0 rfl ut
  ·intro U b2 R a2 a0 a3 a4 u r f
   go_simp
   exact gp ⟨R.heap.size,undef⟩ (aT _ _ _) ⟨r.size,ab.new _ _ _⟩
  simp only[aA];apply Av c7 (λrr=>rr.v) 1 rfl ut
  ·intro U b2 R a2 a0 a3 a4 u r f;obtain ⟨g8,d0⟩:=u.at (k:=0) (j:=19) rfl qr;generalize (u0 19).g=e6 at*;obtain ⟨v',w1,g3,b6,d1,ho,g2⟩:=Qg R l.aE c.aE f.dv.aE _ e6 d0 g0;refine zv 51 _ _ _ _ v' w1 g3 rfl rfl rfl rfl ?_;have hO:aC R w1 l.fp:=(aC.grown d1).mono (λi hi=>by simp only[DA.fp,bG];exact Or.inr hi);have hD:cZ w1 l c:=f.dv.grown (λk hk=>(f.dv.aE.kind k hk).1) d1 (Or.inr rfl) (f.dv.out.only (aC.grown d1) (λk hk hm=>by have e1:=(f.dv.out.kind k hk).1;rw[(f.dv.aE.kind k (by simpa using hm)).1]at e1;exact absurd (aH e1) ut)) g2
   exact gq ⟨0,v'⟩ hO (f.device hD hO rfl rfl rfl rfl rfl (λb q=>Or.inl q)) ⟨b6,ho.imp id (λe=>⟨_,e,r.size⟩)⟩
  simp only[aA];iterate 2 (apply aX;rfl;(intro U b2 R a2 a0 a3 a4 u r f;first|(go_simp;exact aq)|(have d9:=ab.cell f.pe.pe;have d8:=ab.cell f.dv.dv;go_simp;exact aq));simp only[aA])
  refine pz ?_;intro R r hR u;obtain ⟨g8,d0⟩:=u.at (k:=0) (j:=19) rfl;generalize (u0 19).g=e6 at*;have f6:=u.at (k:=1) (j:=20) rfl;generalize (u0 20).v=c5 at*;obtain ⟨b6,ho⟩:sq yR.heap.size l.aE (c.aE++[⟨o.number,nB,t.drop 4⟩]) c5 R:=f6;obtain ⟨hD,hO⟩:=cZ.write (A':={l with aE:=c5}) (d':={c with aE:=c.aE++[⟨o.number,nB,t.drop 4⟩]}) hR.dv 15 c5 rfl rfl rfl rfl rfl hR.dv.out b6 rfl rfl;have k0:R.cell? ⟨l.dev,15,none⟩=some l.aE:=ab.cell hR.dv.dv 15;have kf:=ab.frozen hR.dv.dv 15;obtain ⟨c1,g',c3,b9⟩:=aZ.at b6 pu;obtain ⟨b9,_⟩:=b9;rw[aK,tD]at b9;have e8:=r.trans hO (λi hi=>Or.inl (by simp at hi;simp[DA.fp,hi]));have hS:=a9.out.device (A':={l with aE:=c5}) hD e8 rfl rfl rfl rfl rfl (λb q=>by
   simp only[DA.fp,bG,bp,dD,dH]at q⊢;rcases q with(q|q)|q
   ·exact Or.inl (Or.inl (Or.inl q))
   ·exact Or.inl (Or.inl (Or.inr q))
   rcases ho with e|⟨k,e,hk⟩
   ·rw[e]at q;exact Or.inl (Or.inr q)
   rw[e]at q;obtain rfl:b=k:=by simpa using q
   exact Or.inr hk)
  subst b9;have HS:=Hq hS;clear b6 hD hO e8 d0 r hR ho hS;go_wp2_with fail;first|go_ret|fail
  rw[a1.out];have e:eN c J t src=({c with aE:=c.aE++[⟨o.number,nB,t.drop 4⟩]},o):=by have b5:o.number=J.number:=(by rw[a6.out,a5.out]);rw[b5];rw[a6.out,a5.out];unfold eN;rw[au a7.out,au pm,<-c9.out,b8.out,av (by rw[c8.out,b5])]
  rw[e];exact ⟨⟨_,rfl⟩,_,I,HS.out⟩
 have f9:((m:Int) !=(o.number:Int))=true:=by rw[dY];omega
 have b5:o.number=J.number:=by rw[a6.out,a5.out]
 have c8:=Hq b4;have f5:=Hq b5;clear b4 b5;go_wp2_with fail;first|go_ret|fail
 rw[a1.out];have e:eN c J t src=(c,o):=by rw[a6.out,a5.out];unfold eN;rw[au a7.out,au pm,<-c9.out,b8.out,au (λh=>c8.out (by rw[f5.out];exact aH h))]
 rw[e];exact ⟨⟨_,rfl⟩,l,I,a9.out⟩
def VQ (C:Cr Bg Hd Bu)(hC:bD C) x0 x (U A:DA)(P0 P:PA)(d:Dv Bu)(p:Pe Bg)(h:St x0 U P0 x A P d p)(K:Nat)(dk:bq K d)(hK:K+4<=100000000)(a:SA)(s u:Se)(t:af)(hP:P.slot .next=some a)(hp:p.slot .next=some s)(n:Nat)(aG:af)(src:Nat)
 (h1:s.opens C n aG d.now=some (t,u)) (l3:t.length<=2016) (d4:cT d.now (ni (p.put .next u) u.ae src d.now)) (ho:∀z,dN z a s->Calls prog 246 #[.pointer (some ⟨a.pr,0,none⟩), .int .i64 n,S aG, .int .i64 d.now] z (zl z a u t)):
 Calls prog 186 #[ptr P.pe,ptr a.se, .int .i64 n,S aG, .int .u32 src] x (tW x0 U P0 (eO C d p .next n aG src).1 (eO C d p .next n aG src).2):=by
 have a1:=Hq (Ia C hC d p s u t n aG src hp h1 d4 dk hK);have d4:=Hq d4;have H:=Hq h;have HO:=Hq ho;have HP:=Hq hP;have Hp:=Hq hp;clear h ho hP hp h1;unfold ptr S tW;go_enter func186,ntmps186;go_wp2_with fail;have f5:eF 19 13 1002 (λx y=>aC x y [a.pr,a.wn]) (λb1 b2 z=>St x0 U P0 z A P d (cond b1 (p.put .next u) p)) []:=⟨λx y g=>aC.new g _,λx y z g k=>g.trans k (λi hi=>Or.inl hi),λ_ _ _ _ h g=>h.new g,True.intro,λ_=>True.intro,λe=>absurd e ut,qr⟩;apply gT f5 qr qr (H.out);intro u0;iterate 13 (apply aX;rfl;(intro b1 b2 x1 a' a5 b0 b3 hq w o;first|(go_simp;exact aq)|(have f:=o;have z0:x1.cell? ⟨a.se,0,none⟩=some (.pointer (some ⟨a.pr,0,none⟩)):=(St.Ei f HP.out Hp.out);have k1:=ab.cell f.pe.pe;have i0:=ab.cell f.dv.dv;go_simp;exact aq));simp only[aA])
 apply pn f5 qr
 ·intro b1 b2 x1 a' a5 b0 b3 hq w o;obtain rfl:=a5 (Or.inl rfl);have f:St x0 U P0 x1 A P d p:=o;have B:=HO.out x1 (f.at_slot HP.out Hp.out);unfold zl S at B
  go_simp
  refine B.mono ?_;rintro e y ⟨rfl,j8,ho⟩;exact gw ho (f.slot .next HP.out Hp.out j8 ho)
 simp only[aA];iterate 5 (apply aX;rfl;(intro b1 b2 x1 a' a5 b0 b3 hq w o;first|(go_simp;exact aq)|(have f:=o;have z0:x1.cell? ⟨a.se,0,none⟩=some (.pointer (some ⟨a.pr,0,none⟩)):=(St.Ei f HP.out Hp.out);have k1:=ab.cell f.pe.pe;have i0:=ab.cell f.dv.dv;go_simp;exact aq));simp only[aA])
 refine pz ?_;intro x1 w hR hq;have f:St x0 U P0 x1 A P d (p.put .next u):=hR;have j1:=Y4 x1 a.se;have d1:P.next=some a:=HP.out;have i':x1.cell? ⟨P.pe,19,none⟩=some (.pointer (some ⟨a.se,0,none⟩)):=by have:=ab.cell f.pe.pe 19;rw[this];show some (dO (P.next.map SA.se))=_;rw[d1];rfl
 have f9:x1.cell? ⟨P.pe,18,none⟩=some (dO (P.aL.map SA.se)):=ab.cell f.pe.pe 18;have i9:=ab.cell f.pe.pe 17;have k3:=ab.frozen f.pe.pe 17;have k4:=ab.frozen f.pe.pe 18;have k6:=ab.frozen f.pe.pe 19;obtain ⟨vo,f0⟩:∃vo:Option Addr, .pointer vo=dO (P.aL.map SA.se):=⟨_,rfl⟩;obtain ⟨PB,d0⟩:=kq ({P with aN:=P.aL,aL:=some a,next:=none}:PA);obtain ⟨q2,d3⟩:=kq ({p with aN:=p.aL,aL:=some u,next:=none}:Pe Bg);have b6:∃y5,Hid (y5=((x1.setCell ⟨P.pe,17,none⟩ (.pointer vo)).setCell ⟨P.pe,18,none⟩ (.pointer (some ⟨a.se,0,none⟩))).setCell ⟨P.pe,19,none⟩ (.pointer none)):=⟨_,Hq rfl⟩;obtain ⟨y5,b6⟩:=b6;have f1:=b6.out;have g6:=f.at_slot HP.out (IW p .next u);have g7:∀b∈dX (some a),b∈P.fp:=λb c=>QE P .next b (by show b∈dX P.next;rw[d1];exact c);have h5:St x0 U P0 y5 A PB d q2:=by
  rw[d0,d3];refine f.L8 (y:=y5) ?_ ?_ rfl rfl rfl f.pe.waits f.pe.begun f.pe.aL g6 True.intro (by have:=f.pe.a3;rw[d1]at this;exact this) (λb c=>by simp[dX]at c) (λb c=>by simp[dX]at c) (λb c=>?_)
  ·rw[f1];exact aw (aw (aw (ak x1 (some P.pe)) 17 (.pointer vo)) 18 (.pointer (some ⟨a.se,0,none⟩))) 19 (.pointer none)
  ·rw[f1,f0];exact ((f.pe.pe.set 17 _).set 18 _).set 19 _
  left;simp only[PA.fp,bG,bp,dD,dH]at c⊢;rcases c with((((c|c)|c)|c)|c)|c
  ·exact Or.inl (Or.inl (Or.inl (Or.inl (Or.inl c))))
  ·exact Or.inl (Or.inl (Or.inl (Or.inl (Or.inr c))))
  ·exact Or.inl (Or.inl (Or.inl (Or.inr c)))
  ·exact Or.inl (Or.inr c)
  ·have:=g7 b c;simp only[PA.fp,bG,bp,dD,dH]at this;exact this
  simp[dX]at c
 have f6:Hid (PB.pe=P.pe):=Hq (by rw[d0]);have i5:Hid (PB.aL=some a):=Hq (by rw[d0]);have i6:Hid (q2.aL=some u):=Hq (by rw[d3]);have i3:=Hq d3;have c8:=Hq h5;rw[<-f0]at f9;clear f hR w d1 f0 d0 d3 g6 g7 h5 f1;go_wp2_with fail;rw[<-b6.out,<-f6.out];clear b6 f6 i9 f9 i' k3 k4 k6 j1;refine fe 12 qr qr ?_;iterate 12
  apply rn
  ·intro x6 w;first
    |(have f:=c8.out.new w
      have e9:Value.int .i64 (max (q2.br:Int) (u.ae:Int))= .int .i64 (max q2.br u.ae:Nat):=by congr 1;omega
      go_simp
      exact aq)
    |(go_simp;exact aq)|(have f:=c8.out.new w;have j':=ab.cell f.pe.pe;have l4:=ab.cell (qC (s:=u) f.pe i5.out i6.out).se;go_simp;exact aq)
  simp only[aA]
 refine rz ?_;intro x6 w;have f:=c8.out.new w;have k7:=ab.cell f.pe.pe 7;have q7:=ab.frozen f.pe.pe 7;have h6:=f.put (p':={q2 with br:=max q2.br u.ae}) 7 (.int .i64 (max q2.br u.ae:Nat)) rfl rfl rfl rfl rfl rfl rfl;obtain ⟨q3,e8⟩:=kq ({q2 with br:=max q2.br u.ae}:Pe Bg);rw[<-e8]at h6;have i4:=Hq e8;have c9:=Hq h6;clear h6 f w e8 c8;obtain ⟨mx,g9⟩:∃mx:Int,((max q2.br u.ae:Nat):Int)=mx:=⟨_,rfl⟩;rw[g9]at c9⊢;clear g9;go_wp2_with fail;obtain ⟨y6,h4⟩:=kq (x6.setCell ⟨PB.pe,7,none⟩ (.int .i64 mx));rw[<-h4]at c9⊢;clear h4 k7 q7;refine fe 11 qr qr ?_;iterate 11 (apply rn;(intro k9 a0;first|(go_simp;exact aq)|(have J:=c9.out.new a0;have j':=ab.cell J.pe.pe;have i0:=ab.cell J.dv.dv;go_simp;exact aq));simp only[aA])
 refine rz ?_;intro k9 a0;have J:=c9.out.new a0;have a2:=(MO _ PB.tm _ d.now J.pe.tm dk.now);unfold kB at a2;have b5:=Hq J;clear J a0;go_wp2_with fail;refine a2.mono ?_;rintro e k' ⟨rfl,b7,b9⟩;have f8:=Hq (b5.out.timer (t:=q3.tm.made) b7 b9);clear b7 b9 b5 a2;obtain ⟨q4,e'⟩:=kq ({q3 with tm:=q3.tm.made}:Pe Bg);have h7:St x0 U P0 k' A PB d q4:=by rw[e'];exact f8.out
 have k5:=ab.cell h7.pe.pe 5;have q5:=ab.frozen h7.pe.pe 5;have h8:=h7.put (p':={q4 with at_:=src}) 5 (.int .u32 src) rfl rfl rfl rfl rfl rfl rfl;have h0:({q4 with at_:=src}:Pe Bg)=ni (p.put .next u) u.ae src d.now:=by rw[e',i4.out,i3.out];rfl
 rw[h0]at h8;obtain ⟨r,o⟩:=kq (ni (p.put .next u) u.ae src d.now);rw[<-o]at h8;have f2:cT d.now r:=by rw[o];exact d4.out
 have h2:r.aL≠none:=by rw[o];intro h;cases h
 have B:=Gy C hC x0 _ U A P0 PB d r h8 f2 K dk hK h2;unfold ir ptr at B;obtain ⟨g1,g2,g3,g4⟩:=Dl C hC f2 dk hK;have f4:=Hq h8;have HR:=Hq o;clear h7 e' h0 h8 o f8;go_wp2_with fail;refine B.mono ?_;rintro e y9 ⟨rfl,q,R,h9⟩;have g5:R.pe=PB.pe:=h9.e6.trans f4.out.e6.symm;obtain ⟨l,b8⟩:=kq ((flush C d r).1);obtain ⟨p2,e4⟩:=kq ((flush C d r).2);have HT:Hid (St x0 U P0 y9 q R l p2):=Hq (by rw[b8,e4];exact h9);have f3:Hid (eO C d p .next n aG src=eN l p2 t src):=Hq (by rw[b8,e4,HR.out];exact a1.out);have j5:l.now<=1099511627776:=by rw[b8,g3.now];exact dk.now
 have j3:l.aE.length<=1000000000:=by rw[b8];have:=g2.aE;omega
 clear h9 b8 e4 g1 g2 g3 g4 a1 f4 B k5 q5 f2 h2;have a1:=f3;clear f3;rw[<-g5];clear g5;have ht:=HT.out;have k5:=ab.cell ht.pe.pe 5;have q5:=ab.frozen ht.pe.pe 5;have h3:=ht.put (p':={p2 with at_:=src}) 5 (.int .u32 src) rfl rfl rfl rfl rfl rfl rfl;obtain ⟨p3,e5⟩:=kq ({p2 with at_:=src}:Pe Bg);rw[<-e5]at h3;have a4:=Hq e5;have d9:=Hq h3;clear ht e5 h3;by_cases b4:t=[]
 ·have j9:List.isEmpty t=true:=by rw[b4];rfl
  have a7:=Hq b4;clear b4;go_wp2_with fail;first|go_ret|fail
  rw[a1.out];have e:eN l p2 t src=(l,p3):=by rw[a4.out];unfold eN;rw[av a7.out]
  rw[e];exact ⟨⟨_,rfl⟩,q,R,d9.out⟩
 have j9:List.isEmpty t=false:=by cases t with|nil=>exact absurd rfl b4|cons a b=>rfl
 have a7:=Hq b4;clear b4;go_wp2_with fail;refine fe 11 qr qr ?_;iterate 11 (apply rn;(intro k8 a0;first|(go_simp;exact aq)|(have J:=d9.out.new a0;have i1:=ab.cell J.pe.pe;have h':=ab.cell J.dv.dv;go_simp;exact aq));simp only[aA])
 refine rz ?_;intro k8 a0;have J:=d9.out.new a0;have a2:=(MN _ R.tm _ l.now J.pe.tm j5);unfold kB at a2;have b5:=Hq J;clear J a0;go_wp2_with fail;refine a2.mono ?_;rintro e c6 ⟨rfl,b7,b9⟩;have f7:=Hq (b5.out.timer (t:=(p3.tm.heard l.now)) b7 b9);clear b7 b9 b5 a2;obtain ⟨I,e7⟩:=kq ({p3 with tm:=p3.tm.heard l.now}:Pe Bg);have a8:Hid (St x0 U P0 c6 q R l I):=Hq (by rw[e7];exact f7.out);have a6:=Hq e7;clear e7 f7;by_cases j4:t.length<4
 ·have hd:decide ((t.length:Int)<4)=true:=pp
  go_wp2_with fail;first|go_ret|fail
  rw[a1.out];have e:eN l p2 t src=(l,I):=by rw[a6.out,a4.out];unfold eN;rw[au a7.out,av j4]
  rw[e];exact ⟨⟨_,rfl⟩,q,R,a8.out⟩
 have hd:decide ((t.length:Int)<4)=false:=pp
 have l1:4<=t.length:=pm
 have rx:=dP t 0 4;rw[oA]at rx;have BB:=yP c6 (t.take 4) (by rw[aJ];omega);have g':aV (t.take 4)<4294967296:=fW (ua _) (lI pm (by rw[aJ];omega):256^(t.take 4).length<=256^4);obtain ⟨nB,e3⟩:=kq (aV (t.take 4));rw[<-e3]at BB g';have d8:=Hq e3;clear e3;unfold S at BB;have hm:(nB:Int)%4294967296=(nB:Int):=pm
 have c0:c6.cell? ⟨R.pe,0,none⟩=some (.pointer (some ⟨q.dev,0,none⟩)):=ab.cell a8.out.pe.pe 0;have i8:c6.cell? ⟨q.dev,12,none⟩=some (.pointer (some ⟨q.tb,0,none⟩)):=ab.cell a8.out.dv.dv 12;have BR:=Gz c6 q l a8.out.dv nB g';go_wp2_with fail;refine BB.mono ?_;rintro e w' ⟨rfl,rfl⟩;clear BB rx;go_wp2_with fail;refine ax BR λyR g8=>?_;have a9:=Hq (a8.out.new g8);clear g8 a8 BR c0 i8 hm;have c2:yR.cell? ⟨R.pe,2,none⟩=some (.int .i64 I.number):=ab.cell a9.out.pe.pe 2;rcases hrt:l.fB nB with _|m
 ·have c7:=Hq hrt;clear hrt;go_wp2_with fail;first|go_ret|fail
  rw[a1.out];have e:eN l p2 t src=(l,I):=by rw[a6.out,a4.out];unfold eN;rw[au a7.out,au pm,<-d8.out,c7.out,au (λh=>by cases h)]
  rw[e];exact ⟨⟨_,rfl⟩,q,R,a9.out⟩
 have c7:=Hq hrt;clear hrt;by_cases b':m=I.number
 ·have j0:((m:Int) !=(I.number:Int))=false:=by rw[b'];simp
  have d7:=Hq b';clear b';go_wp2_with fail;have j2:∀b∈q.fp,b<yR.heap.size:=λb c=>(a9.out.dv.kinds b c).2;have d6:eF 23 20 1002 (λx y=>aC x y q.fp) (λ_ _ z=>St x0 U P0 z q R l I) [(19,λrr zz=>yR.heap.size<=rr.g/\ab zz rr.g 54 (nZ ⟨I.number,nB,t.drop 4⟩)),(20,λrr zz=>(sq yR.heap.size q.aE (l.aE++[⟨I.number,nB,t.drop 4⟩])) rr.v zz)]:=⟨λx y g=>aC.new g _,λx y z g k=>g.trans k (λi hi=>Or.inl hi),λ_ _ x y h g=>h.new g,⟨λ_ r0 _ _ h g=>⟨h.1,h.2.kept g pu⟩,λ_ r0 a b h g=>(sq.mono) r0.v a b h g,True.intro⟩,λ_=>⟨λ_ r0 _ _ h g=>FP j2 h g,λe=>absurd rfl e,True.intro⟩,λe=>absurd e ut,qr⟩;apply gT d6 qr qr (a9.out);intro u0;iterate 19
   apply aX;rfl
   ·intro b1 b2 xg a' a5 b0 b3 hq w o;first
     |(have e9:(ByteArray.mk t.toArray).extract 4 t.length=⟨(t.drop 4).toArray⟩:=by rw[dP,cE pu]
       have l2:(4:Int)<=(t.length:Int):=pm
       go_simp
       exact aq)
     |(go_simp;exact aq)|(have i1:=ab.cell o.pe.pe;have h':=ab.cell o.dv.dv;go_simp;exact aq)
   simp only[aA]
  apply jy d6 (λrr=>(λg=> .slice (some ⟨g,0,none⟩) 1 1) rr.g) 0 rfl ut
  ·intro b1 b2 xg a' a5 b0 b3 hq w o
   go_simp
   exact gp ⟨xg.heap.size,undef⟩ (aT _ _ _) ⟨w.size,ab.new _ _ _⟩
  simp only[aA];apply Av d6 (λrr=>rr.v) 1 rfl ut
  ·intro b1 b2 xg a' a5 b0 b3 hq w o;obtain ⟨k2,e0⟩:=hq.at (k:=0) (j:=19) rfl qr;generalize (u0 19).g=f' at*;obtain ⟨v',w1,j7,c5,e2,ho,j6⟩:=Qg xg q.aE l.aE o.dv.aE _ f' e0 j3;refine zv 51 _ _ _ _ v' w1 j7 rfl rfl rfl rfl ?_;have hO:aC xg w1 q.fp:=(aC.grown e2).mono (λi hi=>by simp only[DA.fp,bG];exact Or.inr hi);have hD:cZ w1 q l:=o.dv.grown (λk hk=>(o.dv.aE.kind k hk).1) e2 (Or.inr rfl) (o.dv.out.only (aC.grown e2) (λk hk hm=>by have e1:=(o.dv.out.kind k hk).1;rw[(o.dv.aE.kind k (by simpa using hm)).1]at e1;exact absurd (aH e1) ut)) j6
   exact gq ⟨0,v'⟩ hO (o.device hD hO rfl rfl rfl rfl rfl (λb c=>Or.inl c)) ⟨c5,ho.imp id (λe=>⟨_,e,w.size⟩)⟩
  simp only[aA];iterate 2 (apply aX;rfl;(intro b1 b2 xg a' a5 b0 b3 hq w o;first|(go_simp;exact aq)|(have i1:=ab.cell o.pe.pe;have h':=ab.cell o.dv.dv;go_simp;exact aq));simp only[aA])
  refine pz ?_;intro xg w hR hq;obtain ⟨k2,e0⟩:=hq.at (k:=0) (j:=19) rfl;generalize (u0 19).g=f' at*;have i7:=hq.at (k:=1) (j:=20) rfl;generalize (u0 20).v=d5 at*;obtain ⟨c5,ho⟩:sq yR.heap.size q.aE (l.aE++[⟨I.number,nB,t.drop 4⟩]) d5 xg:=i7;obtain ⟨hD,hO⟩:=cZ.write (A':={q with aE:=d5}) (d':={l with aE:=l.aE++[⟨I.number,nB,t.drop 4⟩]}) hR.dv 15 d5 rfl rfl rfl rfl rfl hR.dv.out c5 rfl rfl;have k0:xg.cell? ⟨q.dev,15,none⟩=some q.aE:=ab.cell hR.dv.dv 15;have kf:=ab.frozen hR.dv.dv 15;obtain ⟨c1,l0,c3,c'⟩:=aZ.at c5 pu;obtain ⟨c',_⟩:=c';rw[aK,tD]at c';have g0:=w.trans hO (λi hi=>Or.inl (by simp at hi;simp[DA.fp,hi]));have hS:=a9.out.device (A':={q with aE:=d5}) hD g0 rfl rfl rfl rfl rfl (λb c=>by
   simp only[DA.fp,bG,bp,dD,dH]at c⊢;rcases c with(c|c)|c
   ·exact Or.inl (Or.inl (Or.inl c))
   ·exact Or.inl (Or.inl (Or.inr c))
   rcases ho with e|⟨k,e,hk⟩
   ·rw[e]at c;exact Or.inl (Or.inr c)
   rw[e]at c;obtain rfl:b=k:=by simpa using c
   exact Or.inr hk)
  subst c';have HS:=Hq hS;clear c5 hD hO g0 e0 w hR ho hS;go_wp2_with fail;first|go_ret|fail
  rw[a1.out];have e:eN l p2 t src=({l with aE:=l.aE++[⟨I.number,nB,t.drop 4⟩]},I):=by have c4:I.number=p2.number:=(by rw[a6.out,a4.out]);rw[c4];rw[a6.out,a4.out];unfold eN;rw[au a7.out,au pm,<-d8.out,c7.out,av (by rw[d7.out,c4])]
  rw[e];exact ⟨⟨_,rfl⟩,_,R,HS.out⟩
 have j0:((m:Int) !=(I.number:Int))=true:=by rw[dY];omega
 have c4:I.number=p2.number:=by rw[a6.out,a4.out]
 have d7:=Hq b';have i2:=Hq c4;clear b' c4;go_wp2_with fail;first|go_ret|fail
 rw[a1.out];have e:eN l p2 t src=(l,I):=by rw[a6.out,a4.out];unfold eN;rw[au a7.out,au pm,<-d8.out,c7.out,au (λh=>d7.out (by rw[i2.out];exact aH h))]
 rw[e];exact ⟨⟨_,rfl⟩,q,R,a9.out⟩
structure bX(w:World)(A:DA)(Ps:List PA)(d:De Bg Bu):Prop where
 dv:cZ w A d.dv
 len:Ps.length=d.aI.length
 row:aZ w 113 1 A.aI Ps.length (Ps.map λP=>ptr P.pe)
 pe:∀(i:Nat) (P:PA) (p:Pe Bg),Ps[i]?=some P->d.aI[i]?=some p->eV w A.dev P p
 apart:∀(i j:Nat) (P Q:PA),i≠j->Ps[i]?=some P->Ps[j]?=some Q->∀b∈P.fp,b∉Q.fp
def eA(A:DA)(a:List PA):Ln:=A.fp++a.flatMap PA.fp
def DY {A:DA}{d:Dv Bu}(h:cZ x A d){P:PA}{p:Pe Bg}(k:eV x D P p):∀b∈P.fp,b∉A.fp:=λb a hm=>Ij (k.kinds b a).1 (h.kinds b hm).1
def Eh {k:Option TypeId}(h:k=some 113):¬iX k/\¬jM k:=by
 subst h;constructor
 ·rintro (e|e|e|e|e|e|e)<;>revert e<;>decide
 rintro (e|e|e|e|e)<;>revert e<;>decide
def bX.IQ {A:DA}{a:List PA}{d:De Bg Bu}(h:bX x A a d){P:PA}(b:a[i]?=some P):∃p,d.aI[i]?=some p:=by
 have c:i<a.length:=by
  rcases eR i a.length with e|e
  ·exact e
  rw[eE e]at b;cases b
 exact ⟨d.aI[i]'(by rw[<-h.len];exact c),aW _⟩
def bX.mN {A:DA}{a:List PA}{d:De Bg Bu}(h:bX x A a d){p:Pe Bg}(b:d.aI[i]?=some p):∃P,a[i]?=some P:=by
 have c:i<d.aI.length:=by
  rcases eR i d.aI.length with e|e
  ·exact e
  rw[eE e]at b;cases b
 exact ⟨a[i]'(by rw[h.len];exact c),aW _⟩
def bX.step {A A':DA}{f:List PA}{d:De Bg Bu}(h:bX x A f d){P P':PA}{p p':Pe Bg}{d':Dv Bu}(s:f[i]?=some P)(hp:d.aI[i]?=some p)(k:St x A P y A' P' d' p'):bX y A' (f.set i P') ⟨d',d.aI.set i p'⟩:=by
 have hk:=h.pe i P p s hp;have u:i<f.length:=by
  rcases eR i f.length with e|e
  ·exact e
  rw[eE e]at s;cases s
 have a0:∀(j:Nat) (Q:PA) (q:Pe Bg),i≠j->f[j]?=some Q->d.aI[j]?=some q->∀b∈Q.fp,b∉A.fp++P.fp:=λj Q q r a o b c hm=>by
  rcases bG.1 hm with hm|hm
  ·exact DY h.dv (h.pe j Q q a o) b c hm
  exact h.apart i j P Q r s a b hm c
 refine ⟨k.dv,by simp[h.len],?_,?_,?_⟩
 ·rw[k.e2,gL];have e:(f.set i P').map (λP=>ptr P.pe)=f.map (λP=>ptr P.pe):=by
   rw[pP];apply oy;intro j;rw[qN];split
   ·rename_i hj;subst hj;rw[av (by simpa using u),fQ,s,k.e6];rfl
   rfl
  rw[e];refine h.row.only k.only (λb c hm=>?_);have J:=Eh (h.row.kind b c).1;rcases bG.1 hm with hm|hm
  ·exact J.2 (h.dv.kinds b hm).1
  exact J.1 (hk.kinds b hm).1
 ·intro j Q q a o;by_cases r:i=j
  ·subst r;rw[kN u]at a;have a:=aH a;rw[kN (by rw[<-h.len];exact u)]at o;have o:=aH o;subst a o;exact k.pe
  rw[lJ r]at a o;rw[k.e1];exact (h.pe j Q q a o).only k.only (a0 j Q q r a o)
 intro j l Q R w a g b c v;have U:∀(m:Nat) (T:PA),f[m]?=some T->∀b∈T.fp,b<x.heap.size:=λm T C b c=>by obtain ⟨t,ht⟩:=h.IQ C;exact ((h.pe m T t C ht).kinds b c).2
 by_cases r:i=j
 ·subst r;rw[kN u]at a;have a:=aH a;rw[lJ w]at g;subst a;rcases k.fp b c with e|e
  ·exact h.apart i l P R w s g b e v
  have:=U l R g b v;omega
 rw[lJ r]at a;by_cases I:i=l
 ·subst I;rw[kN u]at g;have g:=aH g;subst g;rcases k.fp b v with e|e
  ·exact h.apart j i Q P w a s b c e
  have:=U j Q a b c;omega
 rw[lJ I]at g;exact h.apart j l Q R w a g b c v
def bX.device {A A':DA}{a:List PA}{d:De Bg Bu}(h:bX x A a d){d':Dv Bu}(k:gf x A y A' d'):bX y A' a ⟨d',d.aI⟩:=by
 refine ⟨k.dv,h.len,?_,?_,h.apart⟩
 ·rw[k.e2];exact h.row.only k.only (λb f hm=>(Eh (h.row.kind b f).1).2 (h.dv.kinds b hm).1)
 intro j Q q c e;rw[k.e1];exact (h.pe j Q q c e).only k.only (DY h.dv (h.pe j Q q c e))
def bX.new {A:DA}{a:List PA}{d:De Bg Bu}(h:bX x A a d)(g:x.grownBy y none):bX y A a d:=
 ⟨h.dv.new g,h.len,h.row.new g,λj Q q b c=>(h.pe j Q q b c).new g,h.apart⟩
def bX.start {A:DA}{a:List PA}{d:De Bg Bu}(h:bX x A a d){P:PA}{p:Pe Bg}(b:a[i]?=some P)(c:d.aI[i]?=some p):St x A P x A P d.dv p:=
 St.start h.dv (h.pe i P p b c)
def bX.named {A:DA}{a:List PA}{d:De Bg Bu}(h:bX x A a d){P:PA}(c:a[i]?=some P):∃g o b,A.aI= .slice (some ⟨g,o,none⟩) a.length b/\x.cell? ⟨g,o+i,none⟩=some (.pointer (some ⟨P.pe,0,none⟩)):=by
 have j:i<a.length:=by
  rcases eR i a.length with e|e
  ·exact e
  rw[eE e]at c;cases c
 obtain ⟨g,o,b,e,_,_,_,_,f⟩:=h.row.at pm;refine ⟨g,o,b,e,f i _ ?_⟩;rw[fQ,c];rfl
def bX.slice {A:DA}{c:List PA}{d:De Bg Bu}(h:bX x A c d):∃a b,A.aI= .slice a c.length b/\c.length<=b/\b<=maxLen:=by
 rcases h.row.2with⟨e,f⟩|⟨g,o,b,l,e,_,j,k,_⟩
 ·exact ⟨none,0,by rw[e,f],pm,pm⟩
 exact ⟨_,b,e,j,k⟩
structure aY(x:World)(A:DA)(Ps:List PA)(y:World)(A':DA)(Ps':List PA)(d':De Bg Bu):Prop where
 de:bX y A' Ps' d'
 only:aC x y (eA A Ps)
 e1:A'.dev=A.dev
 e2:A'.aI=A.aI
 fp:∀b∈eA A' Ps',b∈eA A Ps\/x.heap.size<=b
def aY.refl {A:DA}{a:List PA}{d:De Bg Bu}(h:bX x A a d):aY x A a x A a d:=⟨h,aC.refl _ _,rfl,rfl,λb c=>Or.inl c⟩
def aY.trans {A A' a:DA}{d f c:List PA}{d' g:De Bg Bu}(h:aY x A d y A' f d')(k:aY y A' f z a c g):aY x A d z a c g:=
 ⟨k.de,h.only.trans k.only (λi l=>h.fp i l),k.e1.trans h.e1,k.e2.trans h.e2,λb j=>(k.fp b j).elim (λe=>h.fp b e) (λe=>Or.inr (bJ h.only.size e))⟩
def aY.new {A:DA}{a:List PA}{d:De Bg Bu}(h:bX x A a d)(g:x.grownBy y none):aY x A a y A a d:=⟨h.new g,aC.new g _,rfl,rfl,λb c=>Or.inl c⟩
def aY.device {A A':DA}{a:List PA}{d:De Bg Bu}(h:bX x A a d){d':Dv Bu}(k:gf x A y A' d'):aY x A a y A' a ⟨d',d.aI⟩:=
 ⟨h.device k,k.only.mono (λi f=>jF _ f),k.e1,k.e2,λb c=>by
  rcases bG.1 c with e|e
  ·exact (k.fa b e).imp (λe=>jF _ e) id
  exact Or.inl (nu _ e)⟩
def Am {a:List PA}{P:PA}(c:a[i]?=some P){b:Nat}(d:b∈P.fp):b∈a.flatMap PA.fp:=mE.2 ⟨P,dc c,d⟩
def aY.peer {A A':DA}{a:List PA}{d:De Bg Bu}(h:bX x A a d){P P':PA}{p p':Pe Bg}{d':Dv Bu}(c:a[i]?=some P)(q:d.aI[i]?=some p)(k:St x A P y A' P' d' p'):aY x A a y A' (a.set i P') ⟨d',d.aI.set i p'⟩:=
 ⟨h.step c q k,k.only.mono (λj o=>by
  rcases bG.1 o with e|e
  ·exact jF _ e
  ·exact nu _ (Am c e)),k.e1,k.e2,λb l=>by
  rcases bG.1 l with e|e
  ·exact (k.fa b e).imp (λe=>jF _ e) id
  obtain ⟨Q,f,g⟩:=mE.1 e;rcases pH f with f|rfl
  ·exact Or.inl (nu _ (mE.2 ⟨Q,f,g⟩))
  exact (k.fp b g).imp (λe=>nu _ (Am c e)) id⟩
structure dR(now:Nat)(p:Pe Bg):Prop where
 ok:cT now p
 bg:∀b,p.begun=some b->xz b
def iJ.later {s:Se}(h:iJ n s)(hm:n<=m):iJ m s:=⟨h.ae,h.fy,h.cu,h.send,h.recv,bJ h.born hm,h.aG,h.next,h.bits⟩
def cT.later {p:Pe Bg}(h:cT n p)(hm:n<=m):cT m p:=
 ⟨h.number,h.ag,h.aD,h.at_,h.dj,h.br,h.sec,h.nano,h.ew,h.eQ,h.kj,h.waits,h.dp,h.fo,h.begun,λs e=>(h.aN s e).later hm,λs e=>(h.aL s e).later hm,λs e=>(h.next s e).later hm,h.tries,bJ h.last hm,bJ h.since hm⟩
def dR.later {p:Pe Bg}(h:dR n p)(hm:n<=m):dR m p:=⟨h.ok.later hm,h.bg⟩
def AU (C:Cr Bg Hd Bu)(d:Dv Bu)(p:Pe Bg)(t:af):(du C d p t).2.begun=p.begun:=by
 unfold du;cases p.aL with
 |none=>rfl
 |some s=>
  dsimp only;split
  ·rfl
  split<;>rfl
def Ql (C:Cr Bg Hd Bu):∀(l:List af) (d:Dv Bu) (p:Pe Bg),(iB C d p l).2.begun=p.begun
 |[],d,p=>rfl
 |t::l,d,p=>by rw[iB,Ql C l,AU]
def Nf (C:Cr Bg Hd Bu)(d:Dv Bu)(p:Pe Bg):(flush C d p).2.begun=p.begun:=Ql C _ _ _
def OG (C:Cr Bg Hd Bu)(a:bD C)(d:Dv Bu)(p:Pe Bg)(t:af):(p.marked C d t).length=t.length+32:=by unfold Pe.marked;rw[a.mark];exact b8 _ _ _
def bq.XQ {e:Dv Bu}(h:bq L e)(a:e.out.length+1<=L)(dst:Nat)(t:af):bq L (e.dt dst t):=by
 unfold Dv.dt;split
 ·exact h
 exact ⟨h.here,h.own,h.ag,h.an,h.aj,h.bt,h.now,h.fresh,h.index,h.dr,h.bk,h.jw,pp,h.aE,h.K⟩
def Sr (C:Cr Bg Hd Bu)(f:bD C){d:Dv Bu}{p:Pe Bg}(ok:dR d.now p)(a:bq K d)(k:K+1<=100000000)(w:p.tm.tries<=5):
 dR (jK C d p).1.now (jK C d p).2/\bq (K+1) (jK C d p).1/\dZ d (jK C d p).1/\(jK C d p).2.number=p.number:=by
 have c:=ok.ok;have g:bq (K+1) {d with fresh:=d.fresh+1,index:=d.index+1,dr:=d.dr+1}:=
  ⟨a.here,a.own,a.ag,a.an,a.aj,a.bt,a.now,tH a.fresh,tH a.index,tH a.dr,fX a.bk,a.jw,fX a.out,fX a.aE,k⟩
 obtain ⟨q,_⟩:=f.begun (min d.aj p.dj) d.own p.ag p.aD (C.key d.an d.fresh) d.now (d.dr%1000000000) d.aj (d.index+1) (by rcases a.aj with e|e<;>rcases c.dj with h|h<;>rw[e,h]<;>decide) a.own c.ag c.aD (by rw[f.key];exact nU _ _) a.now pm a.aj (by have:=a.index;omega);unfold jK;dsimp only;cases e:C.begun (min d.aj p.dj) d.own p.ag p.aD (C.key d.an d.fresh) d.now (d.dr%1000000000) d.aj (d.index+1)with
 |none=>exact ⟨ok,g,⟨rfl,rfl,rfl,rfl,rfl,rfl,rfl,rfl,rfl⟩,rfl⟩
 |some r=>
  obtain ⟨s,b⟩:=r;obtain ⟨u,j⟩:=q s b e;have hm:=OG C f d p s;have l:dZ d ({d with fresh:=d.fresh+1,index:=d.index+1,dr:=d.dr+1}:Dv Bu):=⟨rfl,rfl,rfl,rfl,rfl,rfl,rfl,rfl,rfl⟩;have v:=a.index;refine ⟨⟨?_,λt o=>by cases o;exact j⟩,?_,l.trans (Hm _ _ _),rfl⟩
  ·rw[zZ];exact ⟨c.number,c.ag,c.aD,c.at_,c.dj,c.br,c.sec,c.nano,c.ew,c.eQ,c.kj,c.waits,by show d.index+1<_;omega,by show(p.marked C d s).length<=_;omega,λ_=>by show 38<=(p.marked C d s).length;omega,c.aN,c.aL,c.next,by show p.tm.tries+1<=6;omega,bm _,c.since⟩
  exact g.XQ (by have:=a.out;show d.out.length+1<=_;omega) _ _
def acp {t:Ti}(h:t.kL n=1)(a:t.tries<=6):t.tries<=5:=by
 unfold Ti.kL at h;split at h
 ·omega
 split at h
 ·split at h<;>omega
 split at h<;>omega
def Dg (C:Cr Bg Hd Bu)(j:bD C){d:Dv Bu}{p:Pe Bg}(ok:dR d.now p)(c:bq K d)(e:K+1<=100000000):
 dR (eJ C d p).1.now (eJ C d p).2/\bq (K+1) (eJ C d p).1/\dZ d (eJ C d p).1/\(eJ C d p).2.number=p.number:=by
 have base:dR d.now p/\bq (K+1) d/\dZ d d/\p.number=p.number:=⟨ok,c.more pm e,dZ.refl _,rfl⟩;have a:=ok.ok;unfold eJ;split
 ·rename_i g;split
  ·exact base
  exact Sr C j ok c e (acp g a.tries)
 split
 ·split
  ·obtain ⟨g,k,l,o⟩:=tu C j a c e [];exact ⟨⟨g,λb f=>ok.bg b (by rw[AU]at f;exact f)⟩,k,l,o.number⟩
  exact ⟨⟨a.timer _ a.tries a.last a.since,ok.bg⟩,c.more pm e,dZ.refl _,rfl⟩
 split
 ·refine ⟨⟨?_,λb f=>by cases f⟩,c.more pm e,dZ.refl _,rfl⟩;exact ⟨a.number,a.ag,a.aD,a.at_,a.dj,a.br,a.sec,a.nano,a.ew,a.eQ,pu,pu,a.dp,a.fo,λh=>(by cases h),a.aN,a.aL,a.next,fE _,fE _,fE _⟩
 exact base
def MD (C:Cr Bg Hd Bu):∀(l:List (Pe Bg)) (d:Dv Bu) (p:Pe Bg),eK C d (l++[p])=((eJ C (eK C d l).1 p).1,(eK C d l).2++[(eJ C (eK C d l).1 p).2])
 |[],d,p=>rfl
 |q::l,d,p=>by rw[pL,eK,MD C l];rfl
def GJ (C:Cr Bg Hd Bu):∀(l:List (Pe Bg)) (d:Dv Bu),(eK C d l).2.length=l.length
 |[],d=>rfl
 |q::l,d=>by rw[eK];simp[GJ C l]
def GK (C:Cr Bg Hd Bu)(f:bD C):∀(l:List (Pe Bg)) {K:Nat} {d:Dv Bu},(∀p∈l,dR d.now p)->bq K d->K+l.length<=100000000->
 (∀p∈(eK C d l).2,dR d.now p)/\bq (K+l.length) (eK C d l).1/\dZ d (eK C d l).1
 |[],K,d,ok,c,g=>⟨λp a=>(by cases a),c,dZ.refl _⟩
 |q::l,K,d,ok,c,g=>by
  rw[eI]at g;obtain ⟨e,k,b,o⟩:=Dg C f (ok q pu) c pm;obtain ⟨h,g2,j⟩:=GK C f l (d:=(eJ C d q).1) (λp a=>by rw[b.now];exact ok p (by simp[a])) k pm;rw[eK];refine ⟨λp a=>?_,by rw[eI,show K+(l.length+1)=K+1+l.length from pm];exact g2,b.trans j⟩;rcases bp.1 a with rfl|a
  ·rw[b.now]at e;exact e
  have:=h p a;rw[b.now]at this;exact this
structure dw(K:Nat)(d:De Bg Bu):Prop where
 dv:bq K d.dv
 pe:∀p∈d.aI,dR d.dv.now p
 many:d.aI.length<=8
def Rr {s:Se}(ok:iJ now s)(e:n<=1099511627776):(kM s.next s.bits n).1<=1099511627777/\(kM s.next s.bits n).2<18446744073709551616:=by have d:=ok.next;obtain ⟨b,g2,a,c⟩:=acy (s.next:Int) s.bits (n:Int) pm pm ok.bits;unfold kM;exact ⟨pm,a⟩
def iJ.tx {s:Se}(ok:iJ now s)(a:n<=1099511627776):iJ now {s with next:=(kM s.next s.bits n).1,bits:=(kM s.next s.bits n).2}:=
 ⟨ok.ae,ok.fy,ok.cu,ok.send,ok.recv,ok.born,ok.aG,(Rr ok a).1,(Rr ok a).2⟩
def cT.put {p:Pe Bg}(h:cT n p)(k:Sl){s:Se}(a:iJ n s):cT n (p.put k s):=by
 cases k
 ·exact ⟨h.number,h.ag,h.aD,h.at_,h.dj,h.br,h.sec,h.nano,h.ew,h.eQ,h.kj,h.waits,h.dp,h.fo,h.begun,h.aN,λb e=>by cases e;exact a,h.next,h.tries,h.last,h.since⟩
 ·exact ⟨h.number,h.ag,h.aD,h.at_,h.dj,h.br,h.sec,h.nano,h.ew,h.eQ,h.kj,h.waits,h.dp,h.fo,h.begun,λb e=>by cases e;exact a,h.aL,h.next,h.tries,h.last,h.since⟩
 exact ⟨h.number,h.ag,h.aD,h.at_,h.dj,h.br,h.sec,h.nano,h.ew,h.eQ,h.kj,h.waits,h.dp,h.fo,h.begun,h.aN,h.aL,λb e=>by cases e;exact a,h.tries,h.last,h.since⟩
def cT.slot {p:Pe Bg}(h:cT n p)(k:Sl){s:Se}(a:p.slot k=some s):iJ n s:=by
 cases k
 ·exact h.aL s a
 ·exact h.aN s a
 exact h.next s a
def Jc {p:Pe Bg}(h:cT n p)(a src:Nat)(d:a=1\/a=2)(c:src<4294967296):cT n (ni p a src n):=
 ⟨h.number,h.ag,h.aD,c,h.dj,by show max p.br a=1\/max p.br a=2;rcases h.br with e|e<;>rcases d with b|b<;>rw[e,b]<;>decide,h.sec,h.nano,h.ew,h.eQ,h.kj,h.waits,h.dp,h.fo,h.begun,h.aL,h.next,λs e=>(by cases e),fE _,h.last,h.since⟩
def Yg (t:Ti)(n:Nat)(h:t.since<=n):(t.heard n).tries=t.tries/\(t.heard n).last=t.last/\(t.heard n).since<=n:=by
 unfold Ti.heard;split
 ·exact ⟨rfl,rfl,h⟩
 exact ⟨rfl,rfl,bm _⟩
def NO {d:Dv Bu}{p:Pe Bg}(ok:cT d.now p)(c:bq K d)(f:K+1<=100000000)(t:af)(src:Nat)(k:src<4294967296):
 cT (eN d p t src).1.now (eN d p t src).2/\bq (K+1) (eN d p t src).1/\dZ d (eN d p t src).1/\(eN d p t src).2.number=p.number/\(eN d p t src).2.begun=p.begun:=by
 have e:cT d.now {p with at_:=src}:=⟨ok.number,ok.ag,ok.aD,k,ok.dj,ok.br,ok.sec,ok.nano,ok.ew,ok.eQ,ok.kj,ok.waits,ok.dp,ok.fo,ok.begun,ok.aN,ok.aL,ok.next,ok.tries,ok.last,ok.since⟩;obtain ⟨g,h,j⟩:=Yg p.tm d.now ok.since;have b:cT d.now {p with at_:=src,tm:=p.tm.heard d.now}:=e.timer (p.tm.heard d.now) (by rw[g];exact ok.tries) (by rw[h];exact ok.last) j;have a:=c.more (L:=K+1) pm f;unfold eN;split
 ·exact ⟨e,a,dZ.refl _,rfl,rfl⟩
 split
 ·exact ⟨b,a,dZ.refl _,rfl,rfl⟩
 split
 ·exact ⟨b,⟨a.here,a.own,a.ag,a.an,a.aj,a.bt,a.now,a.fresh,a.index,a.dr,a.bk,a.jw,a.out,by have:=c.aE;simp;omega,f⟩,⟨rfl,rfl,rfl,rfl,rfl,rfl,rfl,rfl,rfl⟩,rfl,rfl⟩
 exact ⟨b,a,dZ.refl _,rfl,rfl⟩
def O8 (p:Pe Bg)(k:Sl)(s:Se):(p.put k s).begun=p.begun/\(p.put k s).number=p.number:=by cases k<;>exact ⟨rfl,rfl⟩
def VP (C:Cr Bg Hd Bu)(l:bD C) x0 x (b A:DA)(c P:PA)(d:Dv Bu)(p:Pe Bg)(h:St x0 b c x A P d p)(ok:cT d.now p)(K:Nat)(j:bq K d)(U:K+5<=100000000)(k:Sl)(a:SA)(s:Se)(o:P.slot k=some a)(f:p.slot k=some s)(n:Nat)(r:n<=1099511627776)(aG:af)(I:aG.length<=2016)(src:Nat)(J:src<4294967296):
 Calls prog 186 #[ptr P.pe,ptr a.se, .int .i64 n,S aG, .int .u32 src] x (tW x0 b c (eO C d p k n aG src).1 (eO C d p k n aG src).2):=by
 have u:=ok.slot k f;rcases IJ C l a s d.now u j.now n r aG I with⟨e,B⟩|⟨t,g,e,tl,R,w,B⟩
 ·exact VR C x0 x b A c P d p h k a s o f n aG src e B
 have v:iJ d.now g:=by rw[w];exact u.tx r
 by_cases q:k= .next
 ·subst q;exact VQ C l x0 x b A c P d p h K j pm a s g t o f n aG src e pm (Jc (ok.put .next v) g.ae src v.ae J) B
 exact VS C l x0 x b A c P d p h K j k q a s g t o f n aG src e pm B
def Yj (C:Cr Bg Hd Bu)(c:bD C){d:Dv Bu}{p:Pe Bg}(ok:cT d.now p)(b:bq K d)(q:K+5<=100000000)(k:Sl)(n:Nat)(u:n<=1099511627776)(aG:af)(hs:aG.length<=2016)(src:Nat)(l:src<4294967296):
 cT (eO C d p k n aG src).1.now (eO C d p k n aG src).2/\bq (K+5) (eO C d p k n aG src).1/\dZ d (eO C d p k n aG src).1/\(eO C d p k n aG src).2.number=p.number/\(eO C d p k n aG src).2.begun=p.begun:=by
 have base:cT d.now p/\bq (K+5) d/\dZ d d/\p.number=p.number/\p.begun=p.begun:=⟨ok,b.more pm q,dZ.refl _,rfl,rfl⟩;cases hp:p.slot k with
 |none=>
  have e:eO C d p k n aG src=(d,p):=by unfold eO;rw[hp]
  rw[e];exact base
 |some s=>
  have w:=ok.slot k hp;rcases IJ C c ⟨0,0,0⟩ s d.now w b.now n u aG hs with⟨e,_⟩|⟨t,a,e,tl,es,P,_⟩
  ·rw[Ib C d p k s n aG src hp e];exact base
  have o:iJ d.now a:=by rw[P];exact w.tx u
  obtain ⟨I,J⟩:=O8 p k a;by_cases r:k= .next
  ·subst r;have v:=Jc (ok.put .next o) a.ae src o.ae l;rw[Ia C c d p s a t n aG src hp e v b pm];obtain ⟨R,U,h3,h4⟩:=Dl C c v b pm;have hb:=Nf C d (ni (p.put .next a) a.ae src d.now);generalize flush C d (ni (p.put .next a) a.ae src d.now)=F at*;obtain ⟨f,g2,g,h,j⟩:=NO R U pm t src l;exact ⟨f,g2,h3.trans g,h.trans h4.number,j.trans hb⟩
  rw[Ic C c d p k s a t n aG src hp e r];obtain ⟨f,g2,g,h,j⟩:=NO (ok.put k o) b pm t src l;exact ⟨f,g2.more pm q,g,h.trans J,j.trans I⟩
def wz(a:List PA)(r:Option Nat):Value:= .pointer (r.bind λi=>(a[i]?).map λP=>⟨P.pe,0,none⟩)
def yo (a:List PA):wz a none= .pointer none:=rfl
def yp {a:List PA}{P:PA}(h:a[i]?=some P):wz a (some i)= .pointer (some ⟨P.pe,0,none⟩):=by unfold wz;simp[h]
def GU {α:Type}{l:List α}{f:α->Bool}{p:α}(h:l[i]?=some p)(b:f p=true)(d:∀(j:Nat) (q:α),j<i->l[j]?=some q->f q=false):l.findIdx? f=some i:=by
 have a:i<l.length:=by
  rcases eR i l.length with e|e
  ·exact e
  rw[eE e]at h;cases h
 rw[aW a]at h;have h:=aH h;rw[Bi];refine ⟨a,by rw[h];exact b,λj c=>?_⟩;rw[d j _ c (aW pm)];decide
def GX {α:Type}{l:List α}{f:α->Bool}(b:∀(j:Nat) (q:α),j<l.length->l[j]?=some q->f q=false):l.findIdx? f=none:=by rw[List.findIdx?_eq_none_iff];intro q c;obtain ⟨j,a,rfl⟩:=List.mem_iff_getElem.1 c;exact b j _ a (aW a)
def LF x (A:DA)(k:List PA)(d:De Bg Bu)(h:bX x A k d)(a2:d.aI.length<=8)(s:af):
 Calls prog 65 #[ptr A.dev,S s] x (λe y=>e= .returned (wz k (known d.aI s))/\x=y):=by
 have a4:x.cell? ⟨A.dev,11,none⟩=some A.aI:=ab.cell h.dv.dv 11;obtain ⟨a,a',R,a5,b2⟩:=h.slice;obtain ⟨L,b⟩:=kq k.length;have C:=h.len;have a3:=Hq R;have H:=Hq h;rw[R,<-b]at a4;rw[<-b]at a5;have b0:L<=8:=by rw[b,C];exact a2
 have a0:Hid (L=d.aI.length):=Hq (by rw[b,C]);clear R h C b a2;unfold ptr S known;obtain ⟨r,J⟩:=kq (wz k (d.aI.findIdx? λp=>p.ag==s));rw[<-J];have a1:=Hq J;clear J;go_enter func65,ntmps65;go_wp2_with fail;go_loop [12] (λU=>∃i:Nat,i<=L/\U= .int .i64 i/\Hid (∀(j:Nat) (q:Pe Bg),j<i->d.aI[j]?=some q->(q.ag==s)=false)) (λU=>L-(intOf U).toNat)
 case atStart=>exact ⟨0,pm,rfl,Hq (λj q c=>absurd c (xk _))⟩
 case round=>
  obtain ⟨i,hi,rfl,I⟩:=hrel;by_cases a6:i<L
  ·have a7:i<d.aI.length:=by rw[<-a0.out];exact a6
   have hd:decide ((i:Int)<(L:Int))=true:=pp;obtain ⟨p,u⟩:∃p,d.aI[i]?=some p:=⟨_,aW a7⟩;obtain ⟨P,t⟩:=H.out.mN u;obtain ⟨g,o,cp,l,b1⟩:=H.out.named t;rw[a3.out]at l;injection l with l e2 e3;subst l;have c3:x.cell? ⟨P.pe,3,none⟩=some (.string ⟨p.ag.toArray⟩):=ab.cell (H.out.pe i P p t u).pe 3;have HH:=Hq t;have HA:=Hq u;clear e2 e3 t u;rcases hq:p.ag==s with _|_
   ·have a8:(p.ag.toArray==s.toArray)=false:=by rw[dC]at hq⊢;exact λe=>hq (by simpa using e)
    have v:=Hq hq;have a9:¬p.ag=s:=by rw[dC]at hq;exact hq
    clear a9 a8;go_wp2;go_round
    case rel=>
     refine ⟨i+1,pm,by go_num,Hq (λj q c f=>?_)⟩;rcases Bn.1 c with e|e
     ·exact I.out j q e f
     subst e;rw[HA.out]at f;rw[<-aH f];exact v.out
    case measure=>simp[intOf];omega
   have v:=Hq hq;go_wp2;go_ret;have w:r= .pointer (some ⟨P.pe,0,none⟩):=(by rw[a1.out,GU HA.out v.out I.out,yp HH.out]);rw[w];exact ⟨rfl,rfl⟩
  have hd:decide ((i:Int)<(L:Int))=false:=pp
  obtain rfl:i=L:=pm
  go_wp2;go_ret;have w:r= .pointer none:=by rw[a1.out,GX (λj q c f=>I.out j q (by rw[a0.out];exact c) f),yo]
  rw[w];exact ⟨rfl,rfl⟩
def E8 {P:PA}{p:Pe Bg}(h:eV x D P p):(P.begun=none/\p.begun=none)\/∃g b,P.begun=some g/\p.begun=some b/\ab x g 312 (tZ b):=by
 have:=h.begun;cases e1:P.begun with
 |none=>cases e2:p.begun with
  |none=>exact Or.inl ⟨rfl,rfl⟩
  |some s=>rw[e1,e2]at this;exact this.elim
 |some a=>cases e2:p.begun with
  |none=>rw[e1,e2]at this;exact this.elim
  |some s=>rw[e1,e2]at this;exact Or.inr ⟨a,s,rfl,rfl,this⟩
def LD (C:Cr Bg Hd Bu)(hC:bD C) x (A:DA)(U:List PA)(d:De Bg Bu)(h:bX x A U d)(a7:d.aI.length<=8)(b4:∀p∈d.aI,p.dp<4294967296)(s:af)(hs:4<=s.length):
 Calls prog 182 #[ptr A.dev,S s] x (λe y=>e= .returned (wz U (indexed d.aI (C.dW (s.take 4))))/\x.grownBy y none):=by
 have b0:x.cell? ⟨A.dev,11,none⟩=some A.aI:=ab.cell h.dv.dv 11;obtain ⟨a,b',a2,b5,c3⟩:=h.slice;obtain ⟨L,u⟩:=kq U.length;have hL:=h.len;have a':=Hq a2;have H:=Hq h;rw[a2,<-u]at b0;rw[<-u]at b5;have c0:L<=8:=by rw[u,hL];exact a7
 have a4:Hid (L=d.aI.length):=Hq (by rw[u,hL]);obtain ⟨a8,a1⟩:=hC.dW (s.take 4) (by rw[aJ];omega);have rx:=dP s 0 4;rw[oA]at rx;have a8:C.dW (s.take 4)<4294967296:=fW a8 (lI pm (by rw[aJ];omega):2^_<=2^32);generalize C.dW (s.take 4)=c at*;have c5:IntKind.u64.wrap (c:Int)=(c:Int):=dE _ pm;clear a2 h hL u a7;unfold S at a1;unfold ptr S indexed;obtain ⟨r,hr⟩:=kq (wz U (d.aI.findIdx? λp=>p.begun.isSome&&p.dp==c));rw[<-hr];have a6:=Hq hr;clear hr;go_enter func182,ntmps182;go_wp2_with fail;go_loopw [12] (λa3 wr=>∃i:Nat,i<=L/\a3= .int .i64 i/\Hid (∀(j:Nat) (q:Pe Bg),j<i->d.aI[j]?=some q->(q.begun.isSome&&q.dp==c)=false)/\Hid (x.grownBy wr none)) (λa3 _=>L-(intOf a3).toNat)
 case atStart=>exact ⟨0,pm,rfl,Hq (λj q w=>absurd w (xk _)),Hq (ak _ _)⟩
 case round=>
  obtain ⟨i,hi,rfl,hn,v⟩:=hrel;by_cases b6:i<L
  ·have b7:i<d.aI.length:=by rw[<-a4.out];exact b6
   have hd:decide ((i:Int)<(L:Int))=true:=pp;obtain ⟨p,J⟩:∃p,d.aI[i]?=some p:=⟨_,aW b7⟩;have R:=H.out.new v.out;obtain ⟨P,hP⟩:=R.mN J;obtain ⟨g,o,cp,e1,c2⟩:=R.named hP;rw[a'.out]at e1;injection e1 with e1 e2 e3;subst e1;have a0:=R.pe i P p hP J;have t:wr.cell? ⟨P.pe,14,none⟩=some (dO P.begun):=ab.cell a0.pe 14;have b9:wr.cell? ⟨P.pe,15,none⟩=some (.int .u32 p.dp):=ab.cell a0.pe 15;have c1:p.dp<4294967296:=b4 p (dc J);have c4:IntKind.u64.wrap (p.dp:Int)=(p.dp:Int):=dE _ pm;have HH:=Hq hP;have HA:=Hq J;have b3:=E8 a0;clear e2 e3 hP J R a0;have a9:(p.begun.isSome&&p.dp==c)=false->∀(j:Nat) (q:Pe Bg),j<i+1->d.aI[j]?=some q->(q.begun.isSome&&q.dp==c)=false:=λf j q w I=>by
    rcases Bn.1 w with e|e
    ·exact hn.out j q e I
    subst e;rw[HA.out]at I;rw[<-aH I];exact f
   have a5:=Hq a9;clear a9;rcases b3 with⟨l,k⟩|⟨gb,b,l,k,_⟩
   ·rw[l]at t;unfold dO at t;simp only[vj]at t;have f:Hid ((p.begun.isSome&&p.dp==c)=false):=Hq (by rw[k];rfl);clear l k;go_wp2_with fail
    go_quiet (fail)
    go_wp2;go_roundw
    case rel=>exact ⟨i+1,pm,by go_num,Hq (a5.out f.out),Hq (iT v.out _)⟩
    case measure=>simp[intOf];omega
   rw[l]at t;unfold dO at t;simp only[qP]at t;by_cases hq:p.dp=c
   ·have b8:((p.dp:Int)==(c:Int))=true:=(by rw[hq];simp);have f:Hid ((p.begun.isSome&&p.dp==c)=true):=Hq (by rw[k];simp[hq]);clear l k;go_wp2_with fail
    go_quiet (first|(go_at_call 92;exact Calls.quiet_of_same ((a1 _).mono (λe w' h=>⟨h.1,h.2.symm⟩))))
    go_wp2;go_ret;have er:r= .pointer (some ⟨P.pe,0,none⟩):=(by rw[a6.out,GU HA.out f.out hn.out,yp HH.out]);rw[er];exact ⟨rfl,iT v.out _⟩
   have b8:((p.dp:Int)==(c:Int))=false:=(by rw[dC];omega);have f:Hid ((p.begun.isSome&&p.dp==c)=false):=Hq (by rw[k];simp[hq]);clear l k;go_wp2_with fail
   go_quiet (first|(go_at_call 92;exact Calls.quiet_of_same ((a1 _).mono (λe w' h=>⟨h.1,h.2.symm⟩))))
   go_wp2;go_roundw
   case rel=>exact ⟨i+1,pm,by go_num,Hq (a5.out f.out),Hq (iT v.out _)⟩
   case measure=>simp[intOf];omega
  have hd:decide ((i:Int)<(L:Int))=false:=pp
  obtain rfl:i=L:=pm
  go_wp2;go_ret;have er:r= .pointer none:=by rw[a6.out,GX (λj q w I=>hn.out j q (by rw[a4.out];exact w) I),yo]
  rw[er];exact ⟨rfl,v.out⟩
def im(x:World)(A:DA)(b:List PA)(d':De Bg Bu)(e:Ending)(y:World):Prop:=(∃c:Int,e= .returned (.int .i64 c))/\∃a d,aY x A b y a d d'
def IP {a:List (Pe Bg)}{f:Pe Bg->Bool}(h:a.findIdx? f=some i):∃p,a[i]?=some p/\f p=true:=by rw[Bi]at h;obtain ⟨c,b,_⟩:=h;exact ⟨a[i],aW c,b⟩
def U4 (C:Cr Bg Hd Bu)(d:De Bg Bu)(s:af)(e:¬s.length<6)(i:Nat)(p:Pe Bg)(a:indexed d.aI (C.dW ((s.drop 2).take 4))=some i)(b:d.aI[i]?=some p):
 d.fJ C s=(match C.accept p.ag p.fo s with|none=>⟨d.dv,d.aI.set i p⟩|some c=>⟨d.dv,d.aI.set i {p with ew:=c,eQ:=d.dv.now+120}⟩):=by
 unfold De.fJ;rw[au e,a];dsimp only;unfold De.at;rw[b];dsimp only;cases C.accept p.ag p.fo s<;>rfl
def UJ (C:Cr Bg Hd Bu)(hC:bD C) x (A:DA)(o:List PA)(d:De Bg Bu)(h:bX x A o d)(K:Nat)(ok:dw K d)(src:Nat)(s:af)(hs:s.length<=2000):
 Calls prog 124 #[ptr A.dev, .int .u32 src,S s] x (im x A o (d.fJ C s)):=by
 by_cases I:s.length<6
 ·have e:d.fJ C s=d:=by unfold De.fJ;rw[av I]
  have hd:decide ((s.length:Int)<6)=true:=pp
  rw[e];have H:=Hq h;clear h ok e;unfold ptr S im;go_enter func124,ntmps124;go_wp2;go_ret;exact ⟨⟨_,rfl⟩,A,o,aY.refl H.out⟩
 have hd:decide ((s.length:Int)<6)=false:=pp
 have a5:6<=s.length:=pm
 have rx:(ByteArray.mk s.toArray).extract 2 6=⟨((s.drop 2).take 4).toArray⟩:=dP s 2 6;have a6:=ok.dv.now;have B:=LD C hC x A o d h ok.many (λp j=>(ok.pe p j).ok.dp) ((s.drop 2).take 4) pp;rw[ku,tN]at B;have k:=Hq h;cases hi:indexed d.aI (C.dW ((s.drop 2).take 4))with
 |none=>
  have e:d.fJ C s=d:=by unfold De.fJ;rw[au I,hi]
  rw[hi,yo]at B;rw[e];clear h ok e hi;unfold S ptr at B;unfold ptr S im;go_enter func124,ntmps124;go_wp2_with fail;refine ax B λy a=>?_;have l:=Hq a;clear a B;go_wp2;go_ret;exact ⟨⟨_,rfl⟩,A,o,aY.new k.out l.out⟩
 |some i=>
  obtain ⟨p,j,_⟩:=IP hi;obtain ⟨P,J⟩:=h.mN j;have a1:=(ok.pe p (dc j)).ok;obtain ⟨_,c,c0,a4,R⟩:=hC.accept p.ag p.fo s a1.ag (by have:=a1.fo;omega) hs;have a3:=Hq (U4 C d s I i p hi j);rw[hi,yp J]at B;obtain ⟨r,U⟩:∃r,C.accept p.ag p.fo s=r:=⟨_,rfl⟩;rw[U]at R;have HR:=Hq U;have a2:=Hq R;have q:=Hq J;have u:=Hq j;clear hi h ok a1 j J U R;unfold S ptr at B;unfold ptr S im;go_enter func124,ntmps124;go_wp2_with fail;refine ax B λy a=>?_;have l:=Hq a;have g:Hid (St y A P y A P d.dv p):=Hq ((k.out.new a).start q.out u.out);clear a B;cases r with
  |none=>
   go_wp2_with fail;refine fe 15 qr qr ?_;iterate 9 (apply rn;(intro f a;first|(go_simp;exact aq)|(have b:=g.out.new a;have a0:=ab.cell b.pe.pe;go_simp;exact aq));simp only[aA])
   apply rn
   ·intro f a;have b:=g.out.new a;have B:=a2.out f;unfold tX Grown S at B
    go_simp
    refine ax B λy hy=>?_;exact gv hy
   simp only[aA];iterate 5 (apply rn;(intro f a;first|(go_simp;exact aq)|(have b:=g.out.new a;have a0:=ab.cell b.pe.pe;go_simp;exact aq));simp only[aA])
   refine rz ?_;intro f a;have HX:=Hq (g.out.new a);clear a;have hc:((c:Int)==0)=false:=(by rw[dC];omega);go_wp2;go_ret;have v:d.fJ C s=⟨d.dv,d.aI.set i p⟩:=(by rw[a3.out,HR.out]);rw[v];exact ⟨⟨_,rfl⟩,_,_,(aY.new k.out l.out).trans (aY.peer (k.out.new l.out) q.out u.out HX.out)⟩
  |some t=>
   go_wp2_with fail;refine fe 15 qr qr ?_;iterate 9 (apply rn;(intro f a;first|(go_simp;exact aq)|(have b:=g.out.new a;have a0:=ab.cell b.pe.pe;go_simp;exact aq));simp only[aA])
   apply rn
   ·intro f a;have b:=g.out.new a;have B:=a2.out f;unfold tX Grown S at B
    go_simp
    refine ax B λy hy=>?_;exact gv hy
   simp only[aA];iterate 5 (apply rn;(intro f a;first|(go_simp;exact aq)|(have b:=g.out.new a;have a0:=ab.cell b.pe.pe;go_simp;exact aq));simp only[aA])
   refine rz ?_;intro f a;have b:=g.out.new a;have HX:=Hq b;have a7:=ab.cell b.pe.pe 11;have a8:=ab.cell b.pe.pe 12;have a9:=ab.frozen b.pe.pe 11;have a':=ab.frozen b.pe.pe 12;have c9:f.cell? ⟨A.dev,9,none⟩=some (.int .i64 d.dv.now):=ab.cell b.dv.dv 9;have hw:wrap64 ((d.dv.now:Int)+120)=(d.dv.now:Int)+120:=qO _ pm;have h1:=b.put (p':={p with ew:=t}) 11 (S t) rfl rfl rfl rfl rfl rfl rfl;have w:=h1.put (p':={p with ew:=t,eQ:=d.dv.now+120}) 12 (.int .i64 ((d.dv.now:Int)+120)) rfl rfl rfl rfl rfl rfl rfl;unfold S at w;have H3:=Hq w;clear b a h1 w;go_wp2;go_ret;have v:d.fJ C s=⟨d.dv,d.aI.set i {p with ew:=t,eQ:=d.dv.now+120}⟩:=(by rw[a3.out,HR.out]);rw[v];exact ⟨⟨_,rfl⟩,_,_,(aY.new k.out l.out).trans (aY.peer (k.out.new l.out) q.out u.out H3.out)⟩
end
section
open Go.RowKit Top
def ZS {C:Cr Bg Hd Bu}(a:bD C)(s:af):C.dW ((s.drop 2).take 4)<4294967296:=
 fW (a.dW ((s.drop 2).take 4) (by rw[aJ];omega)).1 (lI pm (by rw[aJ];omega):2^_<=2^32)
def m9 (h:n<4294967296):(n:Int)%4294967296=(n:Int):=pm
def acL (h:n<=1099511627776):wrap64 (n:Int)=(n:Int):=qO _ pm
def E5 (h:n<=1099511627776):decide ((1099511627776:Int)<(n:Int))=false:=pp
def wK:List Sl:=[.aL, .aN, .next]
def aau (P:PA){k:Sl}(a:wK[m]?=some k):[dO (P.aL.map SA.se),dO (P.aN.map SA.se),dO (P.next.map SA.se)][m]?=some (dO ((P.slot k).map SA.se)):=by
 match m,a with
 |0,a=>cases a;rfl
 |1,a=>cases a;rfl
 |2,a=>cases a;rfl
 |n+3,a=>cases a
def aav (p:Pe Bg)(c m:Nat)(k:Sl)(a:wK[m]?=some k)(b:∀(j:Nat) (e:Sl),j<m->wK[j]?=some e->p.nP c e=false)(d:p.nP c k=true):p.qD c=some k:=by
 unfold Pe.qD
 match m,a with
 |0,a=>cases a;simp[List.find?,d]
 |1,a=>cases a;have:=b 0 .aL pm rfl;simp[List.find?,d,this]
 |2,a=>cases a;have:=b 0 .aL pm rfl;have:=b 1 .aN pm rfl;simp[List.find?, *]
 |n+3,a=>cases a
def aaw (p:Pe Bg)(c:Nat)(a:∀(j:Nat) (b:Sl),j<3->wK[j]?=some b->p.nP c b=false):p.qD c=none:=by have d:=a 0 .aL pm rfl;have e:=a 1 .aN pm rfl;have f:=a 2 .next pm rfl;unfold Pe.qD;simp[List.find?,d,e,f]
def qf(C:Cr Bg Hd Bu)(src:Nat)(d:De Bg Bu)(aG:af)(a b:Nat):De Bg Bu:=match Bc d.aI a with
 |none=>d
 |some n=>d.at n λv p=>match p.qD a with
  |none=>(v,p)
  |some k=>eO C v p k b aG src
def WK (C:Cr Bg Hd Bu)(src:Nat)(d:De Bg Bu)(aG:af)(a b i:Nat)(p:Pe Bg)(k:Sl)(f:d.aI[i]?=some p)(c:p.qD a=some k)(g:∀(j:Nat) (q:Pe Bg),j<i->d.aI[j]?=some q->(q.qD a).isSome=false):
 qf C src d aG a b=⟨(eO C d.dv p k b aG src).1,d.aI.set i (eO C d.dv p k b aG src).2⟩:=by
 have e:Bc d.aI a=some i:=GU f (by rw[c];rfl) g;unfold qf;rw[e];dsimp only;unfold De.at;rw[f];dsimp only;rw[c]
def GI (C:Cr Bg Hd Bu)(src:Nat)(d:De Bg Bu)(s:af)(b:¬s.length<30)(h1:s.getD 1 0=0)(c:C.dW ((s.drop 6).take 8)<=1099511627776):d.data C src s=qf C src d (s.drop 14) (C.dW ((s.drop 2).take 4)) (C.dW ((s.drop 6).take 8)):=by
 have a:¬(s.getD 1 0≠0\/1099511627776<C.dW ((s.drop 6).take 8)):=by
  intro e;rcases e with e|e
  ·exact e h1
  exact absurd c (Nat.not_le.2 e)
 unfold De.data qf;rw[au b,au a];rfl
attribute [local go_sem] dO
def Up (C:Cr Bg Hd Bu)(hC:bD C) x (A:DA)(Ps:List PA)(d:De Bg Bu)(h:bX x A Ps d)(K:Nat)(ok:dw K d)(hK:K+5<=100000000)(src:Nat)(f2:src<4294967296)(s:af)(hs:s.length<=2000)(hl:30<=s.length)(h1:s.getD 1 0=0)(v:C.dW ((s.drop 6).take 8)<=1099511627776):
 Calls prog 125 #[ptr A.dev, .int .u32 src,S s] x (im x A Ps (d.data C src s)):=by
 have c9:x.cell? ⟨A.dev,11,none⟩=some A.aI:=ab.cell h.dv.dv 11;obtain ⟨a,f7,b9,d9,f'⟩:=h.slice;obtain ⟨L,a1⟩:=kq Ps.length;have hL:=h.len;have d6:=Hq b9;rw[b9,<-a1]at c9;rw[<-a1]at d9;have f8:L<=8:=by rw[a1,hL];exact ok.many
 have c6:Hid (L=d.aI.length):=Hq (by rw[a1,hL]);have d':decide ((s.length:Int)<30)=false:=pp
 have f5:(ByteArray.mk s.toArray).extract 6 14=⟨((s.drop 6).take 8).toArray⟩:=dP s 6 14;have f6:(ByteArray.mk s.toArray).extract 2 6=⟨((s.drop 2).take 4).toArray⟩:=dP s 2 6;have g1:(ByteArray.mk s.toArray).extract 14 s.length=⟨(s.drop 14).toArray⟩:=by rw[dP,cE pu]
 have b5:=(hC.dW ((s.drop 6).take 8) (by rw[aJ];omega)).2;have b4:=(hC.dW ((s.drop 2).take 4) (by rw[aJ];omega)).2;have e7:C.dW ((s.drop 2).take 4)<4294967296:=ZS hC s;have c3:=Hq (GI C src d s pm h1 v);generalize C.dW ((s.drop 6).take 8)=nN at*;generalize C.dW ((s.drop 2).take 4)=f at*;have f3:=m9 e7;have g0:=acL v;have e5:=E5 v;have b8:s[1]?=some 0:=by rw[dh]at h1;rw[aW pm]at h1⊢;exact iQ some h1
 have e6:(1:Int)<(s.length:Int):=pm
 have d8:∀hh,((ByteArray.mk s.toArray)[1]'hh).toNat=0:=λhh=>by have e:(ByteArray.mk s.toArray)[1]'hh=s[1]'(pm):=rfl;rw[e];rw[aW pm]at b8;rw[aH b8];rfl
 have H:=Hq h;have OK:=Hq ok;have f0:=Hq v;clear b8;clear b9 h hL a1 ok;rw[c3.out];clear c3;unfold S at b5 b4;unfold ptr S im;go_enter func125,ntmps125;go_wp2_with fail;refine (b5 _).mono ?_;rintro e w' ⟨rfl,rfl⟩;go_wp2_with fail;refine (b4 _).mono ?_;rintro e w' ⟨rfl,rfl⟩;go_wp2_with fail;clear d8 e6;clear c9 e5 f3 d' f5 f6 b5 b4;go_loopw [35] (λc0 wr=>∃i:Nat,i<=L/\c0= .int .i64 i/\Hid (∀(j:Nat) (q:Pe Bg),j<i->d.aI[j]?=some q->(q.qD f).isSome=false)/\Hid (x.grownBy wr none)) (λc0 _=>L-(intOf c0).toNat)
 case atStart=>exact ⟨0,pm,rfl,Hq (λj q t=>absurd t (xk _)),Hq (ak _ _)⟩
 case round=>
  obtain ⟨i,hi,rfl,v,c⟩:=hrel;by_cases e9:i<L
  ·have e':i<d.aI.length:=by rw[<-c6.out];exact e9
   have hd:decide ((i:Int)<(L:Int))=true:=pp;obtain ⟨p,hp⟩:∃p,d.aI[i]?=some p:=⟨_,aW e'⟩;have a0:=H.out.new c.out;obtain ⟨P,hP⟩:=a0.mN hp;obtain ⟨g,o,cp,e1,f9⟩:=a0.named hP;rw[d6.out]at e1;injection e1 with e1 e2 e3;subst e1;have a4:=Hq (a0.pe i P p hP hp);have HH:=Hq hP;have R:=Hq hp;have d4:=Hq a0;have d5:=Hq c.out;clear e2 e3 hP hp a0;go_wp2_with fail;have c5:eF 15 1001 1002 (λa b=>a.grownBy b none) (λ_ _ _=>True) [(12,λrr zz=>wr.heap.size<=rr.g/\ab zz rr.g 121 [dO (P.aL.map SA.se),dO (P.aN.map SA.se),dO (P.next.map SA.se)])]:=⟨λ_ _ h=>h,λ_ _ _=>ai,λ_ _ _ _ _ _=>True.intro,⟨λ_ r0 _ _ h g=>⟨h.1,h.2.kept g pu⟩,True.intro⟩,λe=>absurd e ut,λe=>absurd e ut,qr⟩;apply gT c5 qr qr (True.intro);intro u0;iterate 12 (apply aX;rfl;(intro b1 b2 r a7 a8 a9 a' J c hr;first|(go_simp;exact aq)|(have hx:=a4.out.new c;have f4:=ab.cell hx.pe;go_simp;exact aq));simp only[aA])
   apply jy c5 (λrr=>(λg=> .slice (some ⟨g,0,none⟩) 3 3) rr.g) 0 rfl ut
   ·intro b1 b2 r a7 a8 a9 a' J c hr;have hx:=a4.out.new c
    go_simp
    refine gp ⟨r.heap.size,undef⟩ (aT _ _ _) ?_;refine ⟨c.size,?_⟩;simp only[Option.map_map];exact ab.new _ _ _
   simp only[aA];apply aX;rfl
   ·intro b1 b2 r a7 a8 a9 a' J c hr;obtain ⟨b',a6⟩:=J.at (k:=0) (j:=12) rfl qr;generalize (u0 12).g=c' at*;have hx:=a4.out.new c
    go_simp
    exact aq
   simp only[aA];apply aX;rfl;·(intro b1 b2 r a7 a8 a9 a' J c hr;first|(go_simp;exact aq)|(have hx:=a4.out.new c;have f4:=ab.cell hx.pe;go_simp;exact aq))
   simp only[aA];refine pz ?_;intro r c hR J;obtain ⟨b',a6⟩:=J.at (k:=0) (j:=12) rfl;generalize (u0 12).g=c' at*;have c4:=Hq c;have e4:=d5;have HB:=Hq a6;have HL:=Hq b';clear c a6 b';have d0:x.grownBy r none:=ai e4.out c4.out;have a5:=Hq d0;clear d0;go_wp2_with fail;go_loop [53] (λc1=>∃m:Nat,m<=3/\c1= .int .i64 m/\Hid (∀(j:Nat) (k:Sl),j<m->wK[j]?=some k->p.nP f k=false)) (λc1=>3-(intOf c1).toNat)
   case atStart=>exact ⟨0,pm,rfl,Hq (λj k t=>absurd t (xk _))⟩
   case round=>
    obtain ⟨m,hm,rfl,b7⟩:=hrel;by_cases e8:m<3
    ·have e0:decide ((m:Int)<3)=true:=pp;obtain ⟨k,hk⟩:∃k,wK[m]?=some k:=⟨_,aW e8⟩;have w:r.cell? ⟨c',m,none⟩=some (dO ((P.slot k).map SA.se)):=by rw[ab.cell HB.out m];exact aau P hk
     have b0:=(d4.out.new c4.out).start HH.out R.out;have u:=b0.pe.slot k;have c8:=Hq b0;have HK:=Hq hk;clear b0 hk;have d1:p.nP f k=false->∀(j:Nat) (k':Sl),j<m+1->wK[j]?=some k'->p.nP f k'=false:=λhf j k' t b3=>by
      rcases Bn.1 t with e|e
      ·exact b7.out j k' e b3
      subst e;rw[HK.out]at b3;rw[<-aH b3];exact hf
     have c7:=Hq d1;clear d1;rcases hPk:P.slot k with _|a2
     ·have hf:p.nP f k=false:=by
       rw[hPk]at u;unfold Pe.nP;cases e:p.slot k with
       |none=>rfl
       |some l=>rw[e]at u;exact u.elim
      have U:=Hq hf;rw[hPk]at w;unfold dO at w;simp only[vj]at w;clear hf hPk u;go_wp2;go_round
      case rel=>exact ⟨m+1,pm,by go_num,Hq (c7.out U.out)⟩
      case measure=>simp[intOf];omega
     obtain ⟨l,I⟩:∃l,p.slot k=some l:=by
      rw[hPk]at u;cases e:p.slot k with
      |none=>rw[e]at u;exact u.elim
      |some l=>exact ⟨l,rfl⟩
     have hS:=c8.out.at_slot hPk I;have c2:r.cell? ⟨a2.se,2,none⟩=some (.int .u32 l.fy):=ab.cell hS.se 2;rw[hPk]at w;unfold dO at w;simp only[qP]at w;by_cases b6:l.fy=f
     ·have f1:((l.fy:Int)==(f:Int))=true:=(by rw[b6];simp);have U:Hid (p.nP f k=true):=Hq (by unfold Pe.nP;rw[I];simp[b6]);have d3:=(OK.out.pe p (dc R.out)).ok;have B:=VP C hC r r A A P P d.dv p c8.out d3 K OK.out.dv hK k a2 l hPk I nN f0.out (s.drop 14) pp src f2;unfold tW ptr S at B;clear hPk I hS u d3;go_wp2_with fail;refine B.mono ?_;rintro e y ⟨⟨cc,rfl⟩,A2,P2,h2⟩;have H2:=Hq h2;clear h2 B;go_wp2;go_ret;have er:=WK C src d (s.drop 14) f nN i p k R.out (aav p f m k HK.out b7.out U.out) v.out;rw[er];exact ⟨⟨_,rfl⟩,A2,_,(aY.new H.out a5.out).trans (aY.peer (H.out.new a5.out) HH.out R.out H2.out)⟩
     have f1:((l.fy:Int)==(f:Int))=false:=(by rw[dC];omega);have U:Hid (p.nP f k=false):=Hq (by unfold Pe.nP;rw[I];simp[b6]);clear hPk I hS u;go_wp2;go_round
     case rel=>exact ⟨m+1,pm,by go_num,Hq (c7.out U.out)⟩
     case measure=>simp[intOf];omega
    have e0:decide ((m:Int)<3)=false:=pp;obtain rfl:m=3:=pm;have d2:=aaw p f b7.out;have d7:=Hq d2;clear d2;go_wp2;go_roundw
    case rel=>
     refine ⟨i+1,pm,by go_num,Hq (λj q t a3=>?_),a5⟩;rcases Bn.1 t with e|e
     ·exact v.out j q e a3
     subst e;rw[R.out]at a3;rw[<-aH a3,d7.out];rfl
    case measure=>simp[intOf];omega
  have hd:decide ((i:Int)<(L:Int))=false:=pp
  obtain rfl:i=L:=pm
  go_wp2;go_ret;have er:qf C src d (s.drop 14) f nN=d:=by unfold qf Bc;rw[GX (λj q t a3=>v.out j q (by rw[c6.out];exact t) a3)]
  rw[er];exact ⟨⟨_,rfl⟩,A,Ps,aY.new H.out c.out⟩
end
section
open Go.RowKit Top
def Us (C:Cr Bg Hd Bu) x (A:DA)(a:List PA)(d:De Bg Bu)(h:bX x A a d)(src:Nat)(s:af)(b:s.length<30):
 Calls prog 125 #[ptr A.dev, .int .u32 src,S s] x (im x A a (d.data C src s)):=by
 have e:d.data C src s=d:=by unfold De.data;rw[av b]
 have c:decide ((s.length:Int)<30)=true:=pp
 rw[e];have H:=Hq h;clear h e;unfold ptr S im;go_enter func125,ntmps125;go_wp2;go_ret;exact ⟨⟨_,rfl⟩,A,a,aY.refl H.out⟩
def Ur (C:Cr Bg Hd Bu)(p:bD C) x (A:DA)(b:List PA)(d:De Bg Bu)(h:bX x A b d)(src:Nat)(s:af)(P:s.length<=2000)(r:30<=s.length)(a:s.getD 1 0≠0\/1099511627776<C.dW ((s.drop 6).take 8)):
 Calls prog 125 #[ptr A.dev, .int .u32 src,S s] x (im x A b (d.data C src s)):=by
 have e:d.data C src s=d:=by unfold De.data;rw[au (vC.2 r),av a]
 have w:decide ((s.length:Int)<30)=false:=pp
 have U:(ByteArray.mk s.toArray).extract 6 14=⟨((s.drop 6).take 8).toArray⟩:=dP s 6 14;have j:=(p.dW ((s.drop 6).take 8) (by rw[aJ];omega)).2;generalize C.dW ((s.drop 6).take 8)=t at*;have J:(1:Int)<(s.length:Int):=pm
 rw[e];have H:=Hq h;clear h e;unfold S at j;unfold ptr S im;obtain ⟨c,g⟩:=kq (s[1]'(pm));have k:s.getD 1 0=c:=by rw[g,dh,aW pm];rfl
 rw[k]at a;have q:∀l,((ByteArray.mk s.toArray)[1]'l).toNat=c.toNat:=λl=>by rw[g];rfl
 clear k g;by_cases f:c=0
 ·subst f;have I:decide ((1099511627776:Int)<(t:Int))=true:=by
   rcases a with a|a
   ·exact absurd rfl a
   simp;omega
  have o:(0:UInt8).toNat=0:=rfl;rw[o]at q;clear a;go_enter func125,ntmps125;go_wp2_with fail;refine (j _).mono ?_;rintro e u ⟨rfl,rfl⟩;go_wp2;go_ret;exact ⟨⟨_,rfl⟩,A,b,aY.refl H.out⟩
 have R:¬c.toNat=0:=λe=>f (tJ.1 e);clear a f;generalize c.toNat=v at*;go_enter func125,ntmps125;go_wp2_with fail;refine (j _).mono ?_;rintro e u ⟨rfl,rfl⟩;go_wp2;go_ret;exact ⟨⟨_,rfl⟩,A,b,aY.refl H.out⟩
def Uq (C:Cr Bg Hd Bu)(f:bD C) x (A:DA)(a:List PA)(d:De Bg Bu)(h:bX x A a d)(K:Nat)(ok:dw K d)(l:K+5<=100000000)(src:Nat)(o:src<4294967296)(s:af)(g:s.length<=2000):
 Calls prog 125 #[ptr A.dev, .int .u32 src,S s] x (im x A a (d.data C src s)):=by
 by_cases c:s.length<30
 ·exact Us C x A a d h src s c
 by_cases b:s.getD 1 0≠0\/1099511627776<C.dW ((s.drop 6).take 8)
 ·exact Ur C f x A a d h src s g (vC.1 c) b
 have j:s.getD 1 0=0:=uX λe=>b (Or.inl e);have k:C.dW ((s.drop 6).take 8)<=1099511627776:=vC.1 λe=>b (Or.inr e);exact Up C f x A a d h K ok l src o s g (vC.1 c) j k
def oV(C:Cr Bg Hd Bu)(d:Dv Bu)(a:List (Pe Bg))(i:Nat):De Bg Bu:=⟨(eK C d (a.take i)).1,(eK C d (a.take i)).2++a.drop i⟩
def MF (C:Cr Bg Hd Bu)(d:Dv Bu)(a:List (Pe Bg))(i:Nat)(b:i<=a.length):(eK C d (a.take i)).2.length=i:=by rw[GJ,aJ];omega
def WU (C:Cr Bg Hd Bu)(d:Dv Bu)(a:List (Pe Bg))(i:Nat)(b:i<a.length):(oV C d a i).aI[i]?=some a[i]:=by have h:=MF C d a i pm;show((eK C d (a.take i)).2++a.drop i)[i]?=_;rw[qI pm,h,il,qL];simp[b]
def WW (C:Cr Bg Hd Bu)(d:Dv Bu)(a:List (Pe Bg))(i:Nat)(b:i<a.length):
 oV C d a (i+1)=⟨(eJ C (oV C d a i).dv a[i]).1,(oV C d a i).aI.set i (eJ C (oV C d a i).dv a[i]).2⟩:=by
 have h:=MF C d a i pm;unfold oV;rw[fP b,MD];dsimp only;rw[kp _ _ pm,h,il,dM];have e:a.drop i=a[i]::a.drop (i+1):=(jV b);rw[e];rfl
def WT (C:Cr Bg Hd Bu)(d:Dv Bu)(a:List (Pe Bg))(i:Nat)(b:i=a.length):oV C d a i=⟨(eK C d a).1,(eK C d a).2⟩:=by subst b;unfold oV;rw[pK,tI,ev]
def WV (C:Cr Bg Hd Bu)(f:bD C){d:Dv Bu}(a:List (Pe Bg))(i:Nat)(g:i<=a.length)(ok:∀p∈a,dR d.now p)(c:bq K d)(k:K+a.length<=100000000):bq (K+i) (oV C d a i).dv/\dZ d (oV C d a i).dv:=by obtain ⟨j,b,e⟩:=GK C f (a.take i) (λp h=>ok p (Bt h)) c (by rw[aJ];omega);rw[aJ,iF g]at b;exact ⟨b,e⟩
def UM (C:Cr Bg Hd Bu)(hC:bD C) x (A:DA)(j:List PA)(d:De Bg Bu)(h:bX x A j d)(K:Nat)(ok:dw K d)(hK:K+8<=100000000)(n:Nat)(hn:n+d.dv.now<=1099511627776):
 Calls prog 42 #[ptr A.dev, .int .i64 n] x (λe y=>e= .returned (.int .i64 0)/\∃A' l,aY x A j y A' l (d.tick C n)):=by
 obtain ⟨b,r⟩:=kq d.aI;obtain ⟨f,fe⟩:=kq ({d.dv with now:=d.dv.now+n}:Dv Bu);have w:=h.len;have a3:=ok.many;have c9:x.cell? ⟨A.dev,9,none⟩=some (.int .i64 d.dv.now):=ab.cell h.dv.dv 9;have q9:=ab.frozen h.dv.dv 9;have v:x.cell? ⟨A.dev,11,none⟩=some A.aI:=ab.cell h.dv.dv 11;obtain ⟨a,b4,U,b0,b5⟩:=h.slice;have R:=h.dv.put (d':={d.dv with now:=d.dv.now+n}) 9 (.int .i64 ((d.dv.now:Int)+(n:Int))) (by simp only[sM,ny,iD];rw[vl]) rfl rfl rfl rfl;rw[<-fe]at R;have H1:=Hq (aY.device h R);have a2:Hid (d.tick C n=oV C f b b.length):=Hq (by rw[WT C f b _ rfl,r,fe];rfl);have a9:bq K f:=by rw[fe];have k:=ok.dv;exact ⟨k.here,k.own,k.ag,k.an,k.aj,k.bt,by show d.dv.now+n<=_;omega,k.fresh,k.index,k.dr,k.bk,⟨k.jw.1,by have:=k.jw.2;show d.dv.bk.1<=((d.dv.now+n:Nat):Int);omega⟩,k.out,k.aE,k.K⟩
 have a6:∀p∈b,dR f.now p:=λp hp=>by rw[fe];exact (ok.pe p (by rw[<-r];exact hp)).later (by show d.dv.now<=d.dv.now+n;omega)
 have a8:=Hq U;have i1:decide ((n:Int)<0)=false:=pu
 have i2:wrap64 (1099511627776-(d.dv.now:Int))=1099511627776-(d.dv.now:Int):=qO _ pm;have i3:decide (1099511627776-(d.dv.now:Int)<(n:Int))=false:=pp
 have i4:wrap64 ((d.dv.now:Int)+(n:Int))=(d.dv.now:Int)+(n:Int):=qO _ pm;rw[U]at v;have b3:=Hq fe;have a7:=Hq r;obtain ⟨L,q⟩:=kq j.length;rw[<-q]at v b0;have a':L<=8:=by rw[q,w];exact a3
 have I:L=b.length:=by rw[q,w,r]
 have HL:=Hq q;have a1:=Hq I;have b6:b.length<=8:=by rw[<-I];exact a'
 clear q I h w R U fe r ok a3;unfold ptr;rw[a2.out,<-a1.out];clear a2;go_enter func42,ntmps42;go_wp2_with fail;obtain ⟨x1,a5⟩:=kq (x.setCell ⟨A.dev,9,none⟩ (.int .i64 ((d.dv.now:Int)+(n:Int))));rw[<-a5]at H1⊢;clear a5 c9 q9 v i1 i2 i3 i4;go_loopw [31] (λa0 wr=>∃i:Nat,i<=L/\a0= .int .i64 i/\∃A' l,Hid (aY x A j wr A' l (oV C f b i))) (λa0 _=>L-(intOf a0).toNat)
 case atStart=>refine ⟨0,pm,rfl,A,j,Hq ?_⟩;have:=H1.out;rw[<-a7.out]at this;exact this
 case round=>
  obtain ⟨i,hi,rfl,A',l,c⟩:=hrel;by_cases b2:i<L
  ·have J:i<b.length:=by rw[<-a1.out];exact b2
   have hd:decide ((i:Int)<(L:Int))=true:=pp;have u:=WU C f b i J;obtain ⟨P,t⟩:=c.out.de.mN u;obtain ⟨g,o,cp,s,b1⟩:=c.out.de.named t;rw[c.out.e2,a8.out]at s;injection s with s e2 e3;subst s;obtain ⟨k1,k2⟩:=WV C hC b i pm a6 a9 pm;have B:=CY C hC wr wr A' A' P P _ _ (c.out.de.start t u) (by rw[k2.now];exact (a6 b[i] (iE J)).ok) _ k1 pm;have a4:=WW C f b i J;have HH:=Hq t;have HA:=Hq u;have HU:=Hq a4;unfold ir ptr at B;clear k1 k2 e2 e3 t u a4;generalize b[i]=p at*;go_wp2_with fail;refine B.mono ?_;rintro e y ⟨rfl,A2,P2,h2⟩;have H2:=Hq (c.out.trans (aY.peer c.out.de HH.out HA.out h2));rw[<-HU.out]at H2;clear h2 B c b1 HU HA HH;go_wp2;go_roundw
   case rel=>exact ⟨i+1,pm,by go_num,A2,_,H2⟩
   case measure=>simp[intOf];omega
  have hd:decide ((i:Int)<(L:Int))=false:=pp
  obtain rfl:i=L:=pm
  go_wp2;go_ret;exact ⟨rfl,A',l,c.out⟩
def UO x (A:DA)(d:Dv Bu)(h:cZ x A d)(g:d.now<=1099511627776)(n:Int)(w:(Lit.int .i64 n).wf=true)(a:n<0\/1099511627776<n+d.now):
 Calls prog 42 #[ptr A.dev, .int .i64 n] x (λe y=>e= .returned (.int .i64 1)/\x=y):=by
 have c:x.cell? ⟨A.dev,9,none⟩=some (.int .i64 d.now):=ab.cell h.dv 9;have j:wrap64 (1099511627776-(d.now:Int))=1099511627776-(d.now:Int):=qO _ pm;clear h;unfold ptr;by_cases f:n<0
 ·have b:decide (n<0)=true:=pp
  go_enter func42,ntmps42;go_wp2;go_ret;exact ⟨rfl,rfl⟩
 have b:decide (n<0)=false:=pp
 have k:decide (1099511627776-(d.now:Int)<n)=true:=pp
 clear a;go_enter func42,ntmps42;go_wp2;go_ret;exact ⟨rfl,rfl⟩
def dw.more {d:De Bg Bu}(h:dw K d)(a:K<=L)(b:L<=100000000):dw L d:=⟨h.dv.more a b,h.pe,h.many⟩
def dw.step {d:De Bg Bu}(ok:dw K d)(n:Nat)(f:Dv Bu->Pe Bg->Dv Bu×Pe Bg)(g:K<=L)(h:L<=100000000)
 (j:∀p,d.aI[n]?=some p->dR (f d.dv p).1.now (f d.dv p).2/\bq L (f d.dv p).1/\(f d.dv p).1.now=d.dv.now):dw L (d.at n f):=by
 unfold De.at;cases hp:d.aI[n]?with
 |none=>exact ok.more g h
 |some p=>
  obtain ⟨b,c,e⟩:=j p hp;refine ⟨c,λq a=>?_,by simp[ok.many]⟩;rcases pH a with a|rfl
  ·show dR (f d.dv p).1.now q;rw[e];exact ok.pe q a
  exact b
def abq (C:Cr Bg Hd Bu)(g:bD C){d:De Bg Bu}(ok:dw K d)(h:K+8<=100000000)(n:Nat)(j:n+d.dv.now<=1099511627776):dw (K+8) (d.tick C n):=by
 have k:=ok.dv;have hm:=ok.many;have b:bq K {d.dv with now:=d.dv.now+n}:=
  ⟨k.here,k.own,k.ag,k.an,k.aj,k.bt,by show d.dv.now+n<=_;omega,k.fresh,k.index,k.dr,k.bk,⟨k.jw.1,by have:=k.jw.2;show d.dv.bk.1<=((d.dv.now+n:Nat):Int);omega⟩,k.out,k.aE,k.K⟩
 obtain ⟨c,e,f⟩:=GK C g d.aI (d:={d.dv with now:=d.dv.now+n}) (λp a=>(ok.pe p a).later (by show d.dv.now<=d.dv.now+n;omega)) b pm;unfold De.tick;refine ⟨e.more pm h,λp a=>?_,by show(eK C _ d.aI).2.length<=8;rw[GJ];exact hm⟩;have:=c p a;show dR (eK C _ d.aI).1.now p;rw[f.now];exact this
def WI (C:Cr Bg Hd Bu)(o:bD C){d:De Bg Bu}(ok:dw K d)(a:K+5<=100000000)(src:Nat)(u:src<4294967296)(aG:af)(t:aG.length<=2016)(e f:Nat)(r:f<=1099511627776):dw (K+5) (qf C src d aG e f):=by
 unfold qf;cases Bc d.aI e with
 |none=>exact ok.more pm a
 |some i=>
  refine ok.step i _ pm a (λp s=>?_);have c:=ok.pe p (dc s);cases p.qD e with
  |none=>exact ⟨c,ok.dv.more pm a,rfl⟩
  |some k=>obtain ⟨g,h,j,v,l⟩:=Yj C o c.ok ok.dv a k f r aG t src u;exact ⟨⟨g,λb q=>c.bg b (by rw[<-l];exact q)⟩,h,j.now⟩
def WM (C:Cr Bg Hd Bu)(h:bD C){d:De Bg Bu}(ok:dw K d)(a:K+5<=100000000)(src:Nat)(j:src<4294967296)(s:af)(k:s.length<=2000):dw (K+5) (d.data C src s):=by
 by_cases c:s.length<30
 ·unfold De.data;rw[av c];exact ok.more pm a
 by_cases b:s.getD 1 0≠0\/1099511627776<C.dW ((s.drop 6).take 8)
 ·unfold De.data;rw[au c,av b];exact ok.more pm a
 have g:s.getD 1 0=0:=uX λe=>b (Or.inl e);have f:C.dW ((s.drop 6).take 8)<=1099511627776:=vC.1 λe=>b (Or.inr e);rw[GI C src d s c g f];exact WI C h ok a src j (s.drop 14) pp _ _ f
def U7 (C:Cr Bg Hd Bu)(b:bD C){d:De Bg Bu}(ok:dw K d)(s:af)(j:s.length<=2000):dw K (d.fJ C s):=by
 unfold De.fJ;split
 ·exact ok
 split
 ·exact ok
 refine ok.step _ _ (bm _) ok.dv.K (λp g=>?_);have a:=ok.pe p (dc g);have h:=a.ok;obtain ⟨f,_⟩:=b.accept p.ag p.fo s h.ag (by have:=h.fo;omega) j;cases e:C.accept p.ag p.fo s with
 |none=>exact ⟨a,ok.dv,rfl⟩
 |some c=>exact ⟨⟨⟨h.number,h.ag,h.aD,h.at_,h.dj,h.br,h.sec,h.nano,Or.inr (f c e),by show d.dv.now+120<=1099511627896;have:=ok.dv.now;omega,h.kj,h.waits,h.dp,h.fo,h.begun,h.aN,h.aL,h.next,h.tries,h.last,h.since⟩,a.bg⟩,ok.dv,rfl⟩
def pB(l:List af)(t:af):List af:=(if l.length=4then l.drop 1 else l)++[t]
def ack {l:List af}{t:af}(h:l.length<=4)(b:∀x∈l,x.length<=1004)(c:t.length<=1004):(pB l t).length<=4/\∀x∈pB l t,x.length<=1004:=by
 unfold pB;split
 ·refine ⟨pp,λx a=>?_⟩;rcases bG.1 a with a|a
  ·exact b x (List.mem_of_mem_drop a)
  rw[jG.1 a];exact c
 refine ⟨pp,λx a=>?_⟩;rcases bG.1 a with a|a
 ·exact b x a
 rw[jG.1 a];exact c
def JQ {p:Pe Bg}(h:dR n p){t:af}(a:t.length<=1004):dR n {p with waits:=pB p.waits t,tm:=p.tm.wanted}:=by obtain ⟨b,c⟩:=ack h.ok.kj h.ok.waits a;have k:=h.ok;exact ⟨⟨k.number,k.ag,k.aD,k.at_,k.dj,k.br,k.sec,k.nano,k.ew,k.eQ,b,c,k.dp,k.fo,k.begun,k.aN,k.aL,k.next,k.tries,k.last,k.since⟩,h.bg⟩
def aac (C:Cr Bg Hd Bu)(e:bD C){d:Dv Bu}{p:Pe Bg}(ok:dR d.now p)(f:bq K d)(l:K+2<=100000000)(t:af)(o:t.length<=1004):
 dR (iY C d p t).1.now (iY C d p t).2/\bq (K+2) (iY C d p t).1/\dZ d (iY C d p t).1:=by
 unfold iY;cases hu:pA d p with
 |true=>obtain ⟨h,j,k,q⟩:=tu C e ok.ok f pm t;obtain ⟨a,g2,c,_⟩:=Dg C e (d:=(du C d p t).1) (p:=(du C d p t).2) ⟨h,λb g=>ok.bg b (by rw[AU]at g;exact g)⟩ j pm;exact ⟨a,g2,k.trans c⟩
 |false=>obtain ⟨a,g2,c,_⟩:=Dg C e (JQ ok o) f pm;exact ⟨a,g2.more pm l,c⟩
def aah (C:Cr Bg Hd Bu)(b:bD C){d:De Bg Bu}(ok:dw K d)(a:K+2<=100000000)(src dst:Nat)(s:af):dw (K+2) (d.send C src dst s).1:=by
 unfold De.send;split
 ·exact ok.more pm a
 split
 ·exact ok.more pm a
 rename_i j _ n _;show dw (K+2) (d.at n λv p=>iY C v p (C.me src 4++s));refine ok.step _ _ pm a (λp h=>?_);have g:(C.me src 4++s).length<=1004:=by rw[b.me,aK,fw];omega
 obtain ⟨c,e,f⟩:=aac C b (ok.pe p (dc h)) ok.dv a _ g;exact ⟨c,e,f.now⟩
def Hz(p:Pe Bg)(src:Nat)(t:jh):Pe Bg:={p with stamped:=true,sec:=t.sec,nano:=t.nano,dj:=t.aj,at_:=src}
structure Fu(t:jh):Prop where
 ae:t.ae=1\/t.ae=2
 index:t.index<4294967296
 sec:t.sec<=1099511627776
 nano:t.nano<=999999999
 aj:t.aj=1\/t.aj=2
def NP {p:Pe Bg}(h:dR n p)(b:src<4294967296){t:jh}(a:Fu t):dR n (Hz p src t):=by have k:=h.ok;exact ⟨⟨k.number,k.ag,k.aD,b,a.aj,k.br,a.sec,a.nano,k.ew,k.eQ,k.kj,k.waits,k.dp,k.fo,k.begun,k.aN,k.aL,k.next,k.tries,k.last,k.since⟩,h.bg⟩
def QH(d:Dv Bu):Dv Bu:={d with index:=d.index+1,fresh:=d.fresh+1}
def aaA {d:Dv Bu}(k:bq K d)(a:K+1<=100000000):bq (K+1) (QH d):=
 ⟨k.here,k.own,k.ag,k.an,k.aj,k.bt,k.now,tH k.fresh,tH k.index,fX k.dr,fX k.bk,k.jw,fX k.out,fX k.aE,a⟩
def OV(d:Dv Bu)(t:jh)(b a:af):Se:=⟨t.ae,d.index+1,t.index,b,a,d.now,0,false,0,0⟩
def OW {d:Dv Bu}(k:bq K d){t:jh}(a:Fu t){c b:af}(h1:c.length=32)(e:b.length=32):iJ d.now (OV d t c b):=by have:=k.index;have:=k.K;exact ⟨a.ae,by show d.index+1<_;omega,a.index,h1,e,bm _,fE _,fE _,by show 0<18446744073709551616;omega⟩
def dR.Rm {p:Pe Bg}(h:dR n p){s:Se}(a:iJ n s):dR n {p with next:=some s}:=by have k:=h.ok;exact ⟨⟨k.number,k.ag,k.aD,k.at_,k.dj,k.br,k.sec,k.nano,k.ew,k.eQ,k.kj,k.waits,k.dp,k.fo,k.begun,k.aN,k.aL,λb e=>by cases e;exact a,k.tries,k.last,k.since⟩,h.bg⟩
def Na (C:Cr Bg Hd Bu)(e:bD C){d:Dv Bu}{p:Pe Bg}(ok:dR d.now p)(a:bq K d)(f:K+2<=100000000)(q:src<4294967296){t:jh}(g:Fu t){x:Hd}(r:vG x):
 dR (iz C d p src t x).1.now (iz C d p src t x).2/\bq (K+2) (iz C d p src t x).1/\dZ d (iz C d p src t x).1:=by
 have b:=aaA a pm;obtain ⟨l,_⟩:=e.answer x p.aD (C.key d.an d.fresh) d.aj (d.index+1) r ok.ok.aD (by rw[e.key];exact nU _ _) a.aj (by have:=a.index;have:=a.K;omega);have c:=NP ok q g;unfold iz;split
 ·exact ⟨ok,a.more pm f,dZ.refl _⟩
 dsimp only;split
 ·exact ⟨c,b.more pm f,⟨rfl,rfl,rfl,rfl,rfl,rfl,rfl,rfl,rfl⟩⟩
 rename_i s v u o;obtain ⟨_,h,j⟩:=l s v u o;have k:dZ d (QH d):=⟨rfl,rfl,rfl,rfl,rfl,rfl,rfl,rfl,rfl⟩;refine ⟨?_,b.dt pm _ _,k.trans (Hm _ _ _)⟩;rw[zZ];exact c.Rm (OW a g h j)
def bq.tx {d:Dv Bu}(C:Cr Bg Hd Bu)(c:bD C)(k:bq K d)(e:K+1<=100000000)(f:src<4294967296):bq (K+1) {d with bk:=(C.take d.bk src d.now).2}:=by obtain ⟨a,b,_⟩:=c.take d.bk src d.now f k.now k.jw.1 k.jw.2 (by have:=k.bk;have:=k.K;omega);exact ⟨k.here,k.own,k.ag,k.an,k.aj,k.bt,k.now,fX k.fresh,fX k.index,fX k.dr,by show(C.take d.bk src d.now).2.2.1<=_;rw[b];exact tH k.bk,by show 0<=(C.take d.bk src d.now).2.1/\(C.take d.bk src d.now).2.1<=(d.now:Int);rw[a];omega,fX k.out,fX k.aE,e⟩
def bq.keyed {d:Dv Bu}(k:bq K d)(a:K+1<=100000000):bq (K+1) d.fu:=
 ⟨k.here,k.own,k.ag,k.an,k.aj,k.bt,k.now,tH k.fresh,fX k.index,fX k.dr,fX k.bk,k.jw,fX k.out,fX k.aE,a⟩
def qd (C:Cr Bg Hd Bu)(a:bD C)(d:Dv Bu)(src:Nat):(ey C d src).length=16:=by unfold ey;rw[a.vT,uc _ _ _ pm]
def Xz (C:Cr Bg Hd Bu)(b:bD C){d:De Bg Bu}(ok:dw K d)(a:K+3<=100000000)(h:src<4294967296)(s:af)(R:s.length<=2000):dw (K+3) (d.first C src s)/\(d.first C src s).dv.now=d.dv.now:=by
 obtain ⟨I,_⟩:=b.check d.dv.ag (ey C d.dv src) s ok.dv.ag (qd C b _ _) R;unfold De.first;split
 ·exact ⟨ok.more pm a,rfl⟩
 rename_i v U w;have a0:=I v U w;split
 ·have c:=ok.dv.keyed pm;try dsimp only
  split
  ·exact ⟨⟨c.more pm a,ok.pe,ok.many⟩,rfl⟩
  refine ⟨⟨(c.dt pm _ _).more pm a,?_,ok.many⟩,by show(Dv.dt _ _ _).now=_;rw[zZ];rfl⟩;show∀p∈d.aI,dR (Dv.dt _ _ _).now p;rw[zZ];exact ok.pe
 dsimp only;have c:=ok.dv.tx C b pm h;have e:dw (K+1) ({d with dv:={d.dv with bk:=(C.take d.dv.bk src d.dv.now).2}}:De Bg Bu):=⟨c,ok.pe,ok.many⟩;obtain ⟨P,_⟩:=b.oZ d.dv.own v ok.dv.own pm;split
 ·split
  ·exact ⟨e.more pm a,rfl⟩
  rename_i t x J;obtain ⟨l,t1,o,q,r,u⟩:=P t x J;split
  ·exact ⟨e.more pm a,rfl⟩
  rename_i n hn;refine ⟨e.step _ _ pm a (λp g=>?_),?_⟩
  ·obtain ⟨j,k,f⟩:=Na C b (e.pe p (dc g)) c pm h ⟨t1,o,q,r,u⟩ l;exact ⟨j,k,f.now⟩
  unfold De.at;split
  ·rfl
  rename_i p g;obtain ⟨j,k,f⟩:=Na C b (e.pe p (dc g)) c pm h ⟨t1,o,q,r,u⟩ l;exact f.now
 exact ⟨e.more pm a,rfl⟩
def rH(d:Dv Bu)(p:Pe Bg)(src a aj cu:Nat)(c b:af):Pe Bg:={p with dj:=aj,br:=max p.br a,at_:=src,aN:=p.aL,aL:=some ⟨a,p.dp,cu,c,b,d.now,0,true,0,0⟩,next:=none,begun:=none,tm:=p.tm.made}
def Jb {d:Dv Bu}{p:Pe Bg}(h:dR d.now p){a:Nat}{l j:af}(q:src<4294967296)(g:a=1\/a=2)(c:aj=1\/aj=2)(r:cu<4294967296)(h1:l.length=32)(o:j.length=32):dR d.now (rH d p src a aj cu l j):=by have k:=h.ok;refine ⟨⟨k.number,k.ag,k.aD,q,c,by show max p.br a=1\/max p.br a=2;rcases k.br with e|e<;>rcases g with f|f<;>rw[e,f]<;>decide,k.sec,k.nano,k.ew,k.eQ,k.kj,k.waits,k.dp,k.fo,λh=>(by cases h),k.aL,λs e=>?_,λs e=>(by cases e),fE _,k.last,k.since⟩,λb c=>(by cases c)⟩;cases e;exact ⟨g,k.dp,r,h1,o,bm _,fE _,fE _,by show 0<18446744073709551616;omega⟩
def Jh (C:Cr Bg Hd Bu)(d:Dv Bu)(p:Pe Bg)(src:Nat)(a:af)(b:Bg){e c:af}(f:C.finish b a=some (e,c,aj,cu))(g:¬(a.getD 1 0).toNat<p.br):
 fT C d p src a b=flush C (if p.waits.isEmpty then du C d (rH d p src (a.getD 1 0).toNat aj cu e c) []else(d,rH d p src (a.getD 1 0).toNat aj cu e c)).1 (if p.waits.isEmpty then du C d (rH d p src (a.getD 1 0).toNat aj cu e c) []else(d,rH d p src (a.getD 1 0).toNat aj cu e c)).2:=by
 unfold fT;rw[f];try dsimp only
 rw[au g];rfl
def Y9 (C:Cr Bg Hd Bu)(l:bD C){d:Dv Bu}{p:Pe Bg}(ok:dR d.now p)(f:bq K d)(o:K+5<=100000000)(a0:src<4294967296)(a:af)(ht:a.length<=2000){b:Bg}(c:p.begun=some b):
 dR (fT C d p src a b).1.now (fT C d p src a b).2/\bq (K+5) (fT C d p src a b).1/\dZ d (fT C d p src a b).1:=by
 obtain ⟨hf,_⟩:=l.finish b a (ok.bg b c) ht;cases he:C.finish b a with
 |none=>
  have e:fT C d p src a b=(d,p):=by unfold fT;rw[he]
  rw[e];exact ⟨ok,f.more pm o,dZ.refl _⟩
 |some r=>
  obtain ⟨v,u,aj,cu⟩:=r;obtain ⟨w,I,J,P,f5,R⟩:=hf v u aj cu he;by_cases s:(a.getD 1 0).toNat<p.br
  ·have e:fT C d p src a b=(d,p):=by unfold fT;rw[he];dsimp only;rw[av s]
   rw[e];exact ⟨ok,f.more pm o,dZ.refl _⟩
  rw[Jh C d p src a b he s];have g:=Jb ok a0 R J P w I;generalize rH d p src (a.getD 1 0).toNat aj cu v u=q at*;have key:∀x:Dv Bu×Pe Bg,dR x.1.now x.2->bq (K+1) x.1->dZ d x.1->dR (flush C x.1 x.2).1.now (flush C x.1 x.2).2/\bq (K+5) (flush C x.1 x.2).1/\dZ d (flush C x.1 x.2).1:=λx t k2 k3=>by obtain ⟨h,j,k,U⟩:=Dl C l t.ok k2 pm;exact ⟨⟨h,λb c=>t.bg b (by rw[Nf]at c;exact c)⟩,j,k3.trans k⟩
  refine key _ ?_ ?_ ?_;all_goals
   split
   ·obtain ⟨h,j,k,U⟩:=tu C l g.ok f pm [];first
     |exact ⟨h,λb c=>g.bg b (by rw[AU]at c;exact c)⟩
     |exact j
     |exact k
   first
    |exact g
    |exact f.more pm pm
    |exact dZ.refl _
def Z8 (C:Cr Bg Hd Bu)(c:bD C){d:De Bg Bu}(ok:dw K d)(a:K+5<=100000000)(t:src<4294967296)(s:af)(r:s.length<=2000):dw (K+5) (d.second C src s):=by
 obtain ⟨o,_⟩:=c.check d.dv.ag (ey C d.dv src) s ok.dv.ag (qd C c _ _) r;unfold De.second;split
 ·exact ok.more pm a
 rename_i f u l;have v:=o f u l;split
 ·exact ok.more pm a
 split
 ·exact ok.more pm a
 refine ok.step _ _ pm a (λp q=>?_);have e:=ok.pe p (dc q);try dsimp only
 split
 ·exact ⟨e,ok.dv.more pm a,rfl⟩
 rename_i b k;obtain ⟨g,h,j⟩:=Y9 C c e ok.dv a t f pm k;exact ⟨g,h,j.now⟩
def Wy (C:Cr Bg Hd Bu)(b:bD C){d:De Bg Bu}(ok:dw K d)(a:K+5<=100000000)(e:src<4294967296)(s:af)(c:s.length<=2000):dw (K+5) (d.comes C src s):=by
 unfold De.comes;split
 ·exact ok.more pm a
 split
 ·exact (Xz C b ok pm e _ c).1.more pm a
 split
 ·exact Z8 C b ok a e _ c
 split
 ·exact (U7 C b ok _ c).more pm a
 split
 ·exact WM C b ok a src e _ c
 exact ok.more pm a
def zq(t:af):Prop:=t≠[]/\t.length<=1100
def tT(N:Nat)(g:Gr):Prop:=(1<=g.src/\g.src<=N)/\(1<=g.dst/\g.dst<=N)/\g.src≠g.dst/\zq g.text
def fZ(N b a:Nat):Prop:=1<=a/\a<=N/\b≠a
structure ju(N:Nat)(d:Dv Bu):Prop where
 low:1<=d.here
 high:d.here<=N
 out:∀g∈d.out,tT N g
def nD(N:Nat)(d:Dv Bu)(x:Dv Bu×Pe Bg):Prop:=ju N x.1/\fZ N d.here x.2.at_/\x.1.here=d.here
def ju.dt {d:Dv Bu}(h:ju N d){a:Nat}(j:fZ N d.here a){t:af}(k:zq t):ju N (d.dt a t)/\(d.dt a t).here=d.here:=by
 unfold Dv.dt;split
 ·exact ⟨h,rfl⟩
 obtain ⟨c,e,f⟩:=j;refine ⟨⟨h.low,h.high,λg b=>?_⟩,rfl⟩;rcases bG.1 b with b|b
 ·exact h.out g b
 obtain rfl:=jG.1 b;exact ⟨⟨h.low,h.high⟩,⟨c,e⟩,f,k⟩
def OF (C:Cr Bg Hd Bu)(a:bD C)(d:Dv Bu)(p:Pe Bg)(t:af)(b:t.length<=1000):zq (p.marked C d t):=by have h:=OG C a d p t;refine ⟨λe=>?_,pm⟩;rw[e]at h;simp at h
def Em (C:Cr Bg Hd Bu)(b:bD C){d:Dv Bu}{p:Pe Bg}(h:ju N d)(a:fZ N d.here p.at_)(ok:cT d.now p)(t:af)(j:t.length<=1004):nD N d (du C d p t):=by
 unfold du;split
 ·exact ⟨h,a,rfl⟩
 rename_i s g;split
 ·exact ⟨h,a,rfl⟩
 simp only[b.shut,b.aP];have f:=Ej s.ae s.send s.aG [] t (ok.aL s g).send;obtain ⟨c,e⟩:=h.dt a (t:=[4,0]++aP s.cu 4++aP s.aG 8++jS s.ae s.send s.aG [] t) ⟨pu,by simp only[aK,gE,f,eI,yY];omega⟩;exact ⟨c,a,e⟩
def Qn (C:Cr Bg Hd Bu)(b:bD C):∀(l:List af) {N K:Nat} {d:Dv Bu} {p:Pe Bg},ju N d->fZ N d.here p.at_->cT d.now p->bq K d->K+l.length<=100000000->(∀t∈l,t.length<=1004)->nD N d (iB C d p l)
 |[],N,K,d,p,h,hp,ok,e,f,c=>⟨h,hp,rfl⟩
 |t::l,N,K,d,p,h,hp,ok,e,f,c=>by rw[eI]at f;obtain ⟨k,o,a⟩:=Em C b h hp ok t (c t pu);obtain ⟨r,s,u,v⟩:=tu C b ok e pm t;rw[iB];obtain ⟨g,g2,j⟩:=Qn C b l k (by rw[a];exact o) r s pm (λx q=>c x (by simp[q]));exact ⟨g,by rw[<-a];exact g2,j.trans a⟩
def Nh (C:Cr Bg Hd Bu)(b:bD C){d:Dv Bu}{p:Pe Bg}(h:ju N d)(c:fZ N d.here p.at_)(ok:cT d.now p)(a:bq K d)(e:K+4<=100000000):nD N d (flush C d p):=
 Qn C b p.waits h c ok.empty a (by have:=ok.kj;omega) ok.waits
def Sq (C:Cr Bg Hd Bu)(f:bD C){d:Dv Bu}{p:Pe Bg}(h:ju N d)(g:fZ N d.here p.at_)(ok:cT d.now p)(c:bq K d):nD N d (jK C d p):=by
 have k:ju N {d with fresh:=d.fresh+1,index:=d.index+1,dr:=d.dr+1}:=⟨h.low,h.high,h.out⟩;obtain ⟨o,_⟩:=f.begun (min d.aj p.dj) d.own p.ag p.aD (C.key d.an d.fresh) d.now (d.dr%1000000000) d.aj (d.index+1) (by rcases c.aj with e|e<;>rcases ok.dj with j|j<;>rw[e,j]<;>decide) c.own ok.ag ok.aD (by rw[f.key];exact nU _ _) c.now pm c.aj (by have:=c.index;have:=c.K;omega);unfold jK;try dsimp only
 split
 ·exact ⟨k,g,rfl⟩
 rename_i s b q;obtain ⟨l,g2⟩:=k.dt (a:=p.at_) g (OF C f d p s (by have:=(o s b q).1;omega));exact ⟨l,g,g2⟩
def GL (C:Cr Bg Hd Bu)(b:bD C){d:Dv Bu}{p:Pe Bg}(h:ju N d)(a:fZ N d.here p.at_)(ok:cT d.now p)(c:bq K d):nD N d (eJ C d p):=by
 unfold eJ;split
 ·split
  ·exact ⟨h,a,rfl⟩
  exact Sq C b h a ok c
 split
 ·split
  ·exact Em C b h a ok [] pu
  exact ⟨h,a,rfl⟩
 split
 ·exact ⟨h,a,rfl⟩
 exact ⟨h,a,rfl⟩
def MC (C:Cr Bg Hd Bu)(e:bD C):∀(l:List (Pe Bg)) {N K:Nat} {d:Dv Bu},ju N d->(∀p∈l,fZ N d.here p.at_)->(∀p∈l,dR d.now p)->bq K d->K+l.length<=100000000->ju N (eK C d l).1/\(eK C d l).1.here=d.here/\∀p∈(eK C d l).2,fZ N d.here p.at_
 |[],N,K,d,h,hp,ok,b,f=>⟨h,rfl,hp⟩
 |p::l,N,K,d,h,hp,ok,b,f=>by
  rw[eI]at f;obtain ⟨k,o,c⟩:=GL C e h (hp p pu) (ok p pu).ok b;obtain ⟨t,r,s,u⟩:=Dg C e (ok p pu) b pm;obtain ⟨g,g2,j⟩:=MC C e l k (λq a=>by rw[c];exact hp q (by simp[a])) (λq a=>by rw[s.now];exact ok q (by simp[a])) r pm;rw[eK];refine ⟨g,g2.trans c,λq a=>?_⟩;rcases bp.1 a with rfl|a
  ·exact o
  rw[<-c];exact j q a
structure iG(N:Nat)(d:De Bg Bu):Prop where
 dv:ju N d.dv
 pe:∀p∈d.aI,fZ N d.dv.here p.at_
def iG.at {d:De Bg Bu}(h:iG N d)(n:Nat)(f:Dv Bu->Pe Bg->Dv Bu×Pe Bg)(g:∀p,d.aI[n]?=some p->nD N d.dv (f d.dv p)):iG N (d.at n f)/\(d.at n f).dv.here=d.dv.here:=by
 unfold De.at;split
 ·exact ⟨h,rfl⟩
 rename_i p j;obtain ⟨c,e,b⟩:=g p j;refine ⟨⟨c,λq a=>?_⟩,b⟩;show fZ N (f d.dv p).1.here q.at_;rw[b];rcases pH a with a|rfl
 ·exact h.pe q a
 exact e
def abp (C:Cr Bg Hd Bu)(g:bD C){d:De Bg Bu}(h:iG N d)(ok:dw K d)(j:K+8<=100000000)(n:Nat)(l:n+d.dv.now<=1099511627776):iG N (d.tick C n)/\(d.tick C n).dv.here=d.dv.here:=by
 have k:=ok.dv;have c:bq K {d.dv with now:=d.dv.now+n}:=
  ⟨k.here,k.own,k.ag,k.an,k.aj,k.bt,by show d.dv.now+n<=_;omega,k.fresh,k.index,k.dr,k.bk,⟨k.jw.1,by have:=k.jw.2;show d.dv.bk.1<=((d.dv.now+n:Nat):Int);omega⟩,k.out,k.aE,k.K⟩
 obtain ⟨e,b,f⟩:=MC C g d.aI (d:={d.dv with now:=d.dv.now+n}) ⟨h.dv.low,h.dv.high,h.dv.out⟩ h.pe (λp a=>(ok.pe p a).later (by show d.dv.now<=d.dv.now+n;omega)) c (by have:=ok.many;omega);exact ⟨⟨e,λp a=>by show fZ N (eK C {d.dv with now:=d.dv.now+n} d.aI).1.here p.at_;rw[b];exact f p a⟩,b⟩
def aab (C:Cr Bg Hd Bu)(a:bD C){d:Dv Bu}{p:Pe Bg}(h:ju N d)(e:fZ N d.here p.at_)(ok:dR d.now p)(c:bq K d)(r:K+2<=100000000)(t:af)(f:t.length<=1004):nD N d (iY C d p t):=by
 unfold iY;cases hu:pA d p with
 |true=>obtain ⟨k,l,b⟩:=Em C a h e ok.ok t f;obtain ⟨o,q,s,u⟩:=tu C a ok.ok c pm t;obtain ⟨g,g2,j⟩:=GL C a k (p:=(du C d p t).2) (by rw[b];exact l) o q;exact ⟨g,by rw[<-b];exact g2,j.trans b⟩
 |false=>exact GL C a h e (JQ ok f).ok c
def aag (C:Cr Bg Hd Bu)(a:bD C){d:De Bg Bu}(h:iG N d)(ok:dw K d)(c:K+2<=100000000)(src dst:Nat)(t:af):iG N (d.send C src dst t).1/\(d.send C src dst t).1.dv.here=d.dv.here:=by
 unfold De.send;split
 ·exact ⟨h,rfl⟩
 split
 ·exact ⟨h,rfl⟩
 rename_i f _ n _;have e:(C.me src 4++t).length<=1004:=by rw[a.me,aK,fw];omega
 exact h.at _ (λv p=>iY C v p (C.me src 4++t)) λp b=>aab C a h.dv (h.pe p (dc b)) (ok.pe p (dc b)) ok.dv c _ e
def Xs (C:Cr Bg Hd Bu)(c:bD C){d:Dv Bu}{p:Pe Bg}(h:ju N d)(l:fZ N d.here p.at_)(ok:dR d.now p)(b:bq K d)(e:fZ N d.here src)(t:jh){x:Hd}(o:vG x):nD N d (iz C d p src t x):=by
 have f:ju N {d with index:=d.index+1,fresh:=d.fresh+1}:=⟨h.low,h.high,h.out⟩;obtain ⟨j,_⟩:=c.answer x p.aD (C.key d.an d.fresh) d.aj (d.index+1) o ok.ok.aD (by rw[c.key];exact nU _ _) b.aj (by have:=b.index;have:=b.K;omega);unfold iz;split
 ·exact ⟨h,l,rfl⟩
 dsimp only;split
 ·exact ⟨f,e,rfl⟩
 rename_i s r q k;obtain ⟨u,_,_⟩:=j s r q k;obtain ⟨g,g2⟩:=f.dt (a:=src) e (OF C c d {p with stamped:=true,sec:=t.sec,nano:=t.nano,dj:=t.aj,at_:=src} s pm);exact ⟨g,e,g2⟩
def Xx (C:Cr Bg Hd Bu)(c:bD C){d:De Bg Bu}(h:iG N d)(ok:dw K d)(U:K+3<=100000000)(J:src<4294967296)(k:fZ N d.dv.here src)(s:af)(j:s.length<=2000):iG N (d.first C src s)/\(d.first C src s).dv.here=d.dv.here:=by
 obtain ⟨v,_⟩:=c.check d.dv.ag (ey C d.dv src) s ok.dv.ag (qd C c _ _) j;unfold De.first;split
 ·exact ⟨h,rfl⟩
 rename_i o R u;have a0:=v o R u;split
 ·obtain ⟨I,_⟩:=c.fJ d.dv.ag ((C.key d.dv.an d.dv.fresh).take 24) (ey C d.dv src) s ok.dv.ag (by rw[c.key,aJ,nU];rfl) (qd C c _ _) j;split
  ·exact ⟨⟨⟨h.dv.low,h.dv.high,h.dv.out⟩,h.pe⟩,rfl⟩
  rename_i r g;have b:ju N d.dv.fu:=⟨h.dv.low,h.dv.high,h.dv.out⟩;have l:=I r g;obtain ⟨q,g2⟩:=b.dt (a:=src) k (t:=r) ⟨λe=>by rw[e]at l;simp at l,pm⟩;exact ⟨⟨q,λp f=>by show fZ N (d.dv.fu.dt src r).here p.at_;rw[g2];exact h.pe p f⟩,g2⟩
 have b:iG N {d with dv:={d.dv with bk:=(C.take d.dv.bk src d.dv.now).2}}:=⟨⟨h.dv.low,h.dv.high,h.dv.out⟩,h.pe⟩;have P:=ok.dv.tx C c pm J;obtain ⟨w,_⟩:=c.oZ d.dv.own o ok.dv.own pm;try dsimp only
 split
 ·split
  ·exact ⟨b,rfl⟩
  rename_i t x g;split
  ·exact ⟨b,rfl⟩
  exact b.at _ _ λp f=>Xs C c b.dv (b.pe p (dc f)) (ok.pe p (dc f)) P k _ (w t x g).1
 exact ⟨b,rfl⟩
def Y8 (C:Cr Bg Hd Bu)(a:bD C){d:Dv Bu}{p:Pe Bg}(h:ju N d)(s:fZ N d.here p.at_)(ok:dR d.now p)(l:bq K d)(hK:K+5<=100000000)(a0:src<4294967296)(hs:fZ N d.here src)(t:af)(ht:t.length<=2000){b:Bg}(c:p.begun=some b):nD N d (fT C d p src t b):=by
 obtain ⟨hf,_⟩:=a.finish b t (ok.bg b c) ht;cases he:C.finish b t with
 |none=>
  have e:fT C d p src t b=(d,p):=by unfold fT;rw[he]
  rw[e];exact ⟨h,s,rfl⟩
 |some r=>
  obtain ⟨k,j,aj,cu⟩:=r;obtain ⟨v,w,I,J,f5,P⟩:=hf k j aj cu he;by_cases u:(t.getD 1 0).toNat<p.br
  ·have e:fT C d p src t b=(d,p):=by unfold fT;rw[he];dsimp only;rw[av u]
   rw[e];exact ⟨h,s,rfl⟩
  rw[Jh C d p src t b he u];have g:=Jb ok a0 P I J v w;have o:fZ N d.here (rH d p src (t.getD 1 0).toNat aj cu k j).at_:=hs;generalize rH d p src (t.getD 1 0).toNat aj cu k j=q at*;have key:∀x:Dv Bu×Pe Bg,dR x.1.now x.2->bq (K+1) x.1->nD N d x->nD N d (flush C x.1 x.2):=λx k1 k2 k3=>by obtain ⟨i1,i2,f⟩:=k3;obtain ⟨R,g2,U⟩:=Nh C a i1 (p:=x.2) (by rw[f];exact i2) k1.ok k2 pm;exact ⟨R,by rw[<-f];exact g2,U.trans f⟩
  refine key _ ?_ ?_ ?_;all_goals
   split
   ·obtain ⟨h1,h2,h3,h4⟩:=tu C a g.ok l pm [];first
     |exact ⟨h1,λb c=>g.bg b (by rw[AU]at c;exact c)⟩
     |exact h2
     |exact Em C a h o g.ok [] pu
   first
    |exact g
    |exact l.more pm pm
    |exact ⟨h,o,rfl⟩
def Z5 (C:Cr Bg Hd Bu)(a:bD C){d:De Bg Bu}(h:iG N d)(ok:dw K d)(f:K+5<=100000000)(q:src<4294967296)(o:fZ N d.dv.here src)(s:af)(l:s.length<=2000):iG N (d.second C src s)/\(d.second C src s).dv.here=d.dv.here:=by
 obtain ⟨k,_⟩:=a.check d.dv.ag (ey C d.dv src) s ok.dv.ag (qd C a _ _) l;unfold De.second;split
 ·exact ⟨h,rfl⟩
 rename_i t r j;have u:=k t r j;split
 ·exact ⟨h,rfl⟩
 split
 ·exact ⟨h,rfl⟩
 refine h.at _ _ λp c=>?_;have e:=h.pe p (dc c);try dsimp only
 split
 ·exact ⟨h.dv,e,rfl⟩
 rename_i b g;exact Y8 C a h.dv e (ok.pe p (dc c)) ok.dv f q o _ pm g
def U6 (C:Cr Bg Hd Bu){d:De Bg Bu}(h:iG N d)(s:af):iG N (d.fJ C s)/\(d.fJ C s).dv.here=d.dv.here:=by
 unfold De.fJ;split
 ·exact ⟨h,rfl⟩
 split
 ·exact ⟨h,rfl⟩
 refine h.at _ _ λp b=>?_;have a:=h.pe p (dc b);try dsimp only
 split
 ·exact ⟨h.dv,a,rfl⟩
 exact ⟨h.dv,a,rfl⟩
def NN {b d:Dv Bu}{p:Pe Bg}(h:ju N d)(e:d.here=b.here)(t:af)(a:fZ N b.here src):nD N b (eN d p t src):=by
 unfold eN;split
 ·exact ⟨h,a,e⟩
 split
 ·exact ⟨h,a,e⟩
 split
 ·exact ⟨⟨h.low,h.high,h.out⟩,a,e⟩
 exact ⟨h,a,e⟩
def Yi (C:Cr Bg Hd Bu)(c:bD C){d:Dv Bu}{p:Pe Bg}(h:ju N d)(b:fZ N d.here p.at_)(ok:cT d.now p)(f:bq K d)(U:K+5<=100000000)(J:src<4294967296)(g:fZ N d.here src)(k:Sl)(n:Nat)(l:n<=1099511627776)(aG:af)(I:aG.length<=2016):nD N d (eO C d p k n aG src):=by
 cases b:p.slot k with
 |none=>
  have e:eO C d p k n aG src=(d,p):=by unfold eO;rw[b]
  rw[e];exact ⟨h,jp,rfl⟩
 |some s=>
  have q:=ok.slot k b;rcases IJ C c ⟨0,0,0⟩ s d.now q f.now n l aG I with⟨e,_⟩|⟨t,a,e,tl,P,u,_⟩
  ·rw[Ib C d p k s n aG src b e];exact ⟨h,jp,rfl⟩
  have r:iJ d.now a:=by rw[u];exact q.tx l
  by_cases j:k= .next
  ·subst j;have o:=Jc (ok.put .next r) a.ae src r.ae J;rw[Ia C c d p s a t n aG src b e o f pm];obtain ⟨v,R,w⟩:=Nh C c h (p:=ni (p.put .next a) a.ae src d.now) g o f pm;generalize flush C d (ni (p.put .next a) a.ae src d.now)=F at*;exact NN v w t g
  rw[Ic C c d p k s a t n aG src b e j];exact NN h rfl t g
def WH (C:Cr Bg Hd Bu)(f:bD C){d:De Bg Bu}(h:iG N d)(ok:dw K d)(g:K+5<=100000000)(o:src<4294967296)(l:fZ N d.dv.here src)(aG:af)(j:aG.length<=2016)(e a:Nat)(k:a<=1099511627776):iG N (qf C src d aG e a)/\(qf C src d aG e a).dv.here=d.dv.here:=by
 unfold qf;split
 ·exact ⟨h,rfl⟩
 refine h.at _ _ λp b=>?_;have c:=h.pe p (dc b);try dsimp only
 split
 ·exact ⟨h.dv,c,rfl⟩
 exact Yi C f h.dv c (ok.pe p (dc b)).ok ok.dv g o l _ _ k _ j
def WL (C:Cr Bg Hd Bu)(g:bD C){d:De Bg Bu}(h:iG N d)(ok:dw K d)(j:K+5<=100000000)(l:src<4294967296)(k:fZ N d.dv.here src)(s:af)(o:s.length<=2000):iG N (d.data C src s)/\(d.data C src s).dv.here=d.dv.here:=by
 by_cases a:s.length<30
 ·unfold De.data;rw[av a];exact ⟨h,rfl⟩
 by_cases b:s.getD 1 0≠0\/1099511627776<C.dW ((s.drop 6).take 8)
 ·unfold De.data;rw[au a,av b];exact ⟨h,rfl⟩
 have f:s.getD 1 0=0:=uX λe=>b (Or.inl e);have c:C.dW ((s.drop 6).take 8)<=1099511627776:=vC.1 λe=>b (Or.inr e);rw[GI C src d s a f c];exact WH C g h ok j l k _ pp _ _ c
def Wx (C:Cr Bg Hd Bu)(a:bD C){d:De Bg Bu}(h:iG N d)(ok:dw K d)(f:K+5<=100000000)(e:src<4294967296)(c:fZ N d.dv.here src)(s:af)(b:s.length<=2000):iG N (d.comes C src s)/\(d.comes C src s).dv.here=d.dv.here:=by
 unfold De.comes;split
 ·exact ⟨h,rfl⟩
 split
 ·exact Xx C a h ok pm e c _ b
 split
 ·exact Z5 C a h ok f e c _ b
 split
 ·exact U6 C h _
 split
 ·exact WL C a h ok f e c _ b
 exact ⟨h,rfl⟩
structure jJ(K:Nat)(l:Li Bg Bu):Prop where
 n:l.nodes.length<=8
 de:∀(i:Nat) (x:No Bg Bu),l.nodes[i]?=some x->dw K x.de/\iG l.nodes.length x.de/\x.de.dv.here=i+1/\x.all.length<=K
 air:∀g∈l.air,tT l.nodes.length g
 many:l.air.length<=60
def Empty(l:Li Bg Bu):Prop:=∀x∈l.nodes,x.de.dv.out=[]/\x.de.dv.aE=[]
def IF (l:Li Bg Bu)(n:Nat)(f:De Bg Bu->De Bg Bu):(l.on n f).nodes.length=l.nodes.length/\(l.on n f).air=l.air:=by
 unfold Li.on;split
 ·exact ⟨rfl,rfl⟩
 exact ⟨pu,rfl⟩
def jJ.more {l:Li Bg Bu}(h:jJ K l)(a:K<=L)(f:L<=100000000):jJ L l:=
 ⟨h.n,λi x g=>by obtain ⟨b,c,d,e⟩:=h.de i x g;exact ⟨b.more a f,c,d,bJ e a⟩,h.air,h.many⟩
def jJ.on {l:Li Bg Bu}(h:jJ K l)(a:K<=L)(k:L<=100000000)(n:Nat)(f:De Bg Bu->De Bg Bu)(t:∀x,l.nodes[n]?=some x->dw L (f x.de)/\iG l.nodes.length (f x.de)/\(f x.de).dv.here=x.de.dv.here):jJ L (l.on n f):=by
 unfold Li.on;split
 ·exact h.more a k
 rename_i x b;refine ⟨by simpa using h.n,λi y c=>?_,λg u=>?_,h.many⟩
 ·rw[gL];by_cases e:n=i
  ·subst e;have v:n<l.nodes.length:=by
    rcases eR n l.nodes.length with e|e
    ·exact e
    rw[eE e]at b;cases b
   rw[kN v]at c;obtain rfl:=aH c;obtain ⟨q,r,s⟩:=t x b;obtain ⟨o,p,d,j⟩:=h.de n x b;exact ⟨q,r,s.trans d,bJ j a⟩
  rw[lJ e]at c;obtain ⟨o,p,d,j⟩:=h.de i y c;exact ⟨o.more a k,p,d,bJ j a⟩
 rw[gL];exact h.air g u
def YX {air b:List Gr}(h:∀g∈air,tT N g)(c:∀g∈b,tT N g)(hm:air.length<=60):(∀g∈iA air b,tT N g)/\(iA air b).length<=60:=by
 unfold iA;refine ⟨λg a=>?_,?_⟩
 ·rcases bG.1 a with a|a
  ·exact h g a
  exact c g (Bt a)
 rw[aK,aJ];omega
def Ll {N:Nat}:∀(l:List (No Bg Bu)) {air:List Gr},(∀g∈air,tT N g)->air.length<=60->(∀x∈l,iG N x.de)->(∀g∈(kW air l).1,tT N g)/\(kW air l).1.length<=60
 |[],air,h,hm,a=>⟨h,hm⟩
 |x::l,air,h,hm,a=>by rw[kW];obtain ⟨b,c⟩:=YX h (a x pu).dv.out hm;exact Ll l b c λy d=>a y (by simp[d])
def vO(n:No Bg Bu):No Bg Bu:=⟨⟨{n.de.dv with out:=[],aE:=[]},n.de.aI⟩,n.all++n.de.dv.aE⟩
def zK:∀(l:List (No Bg Bu)) (air:List Gr),(kW air l).2=l.map vO
 |[],air=>rfl
 |x::l,air=>by rw[kW,zK l];rfl
def jJ.mP {l:Li Bg Bu}(h:jJ K l)(p:∀x∈l.nodes,x.all.length+x.de.dv.aE.length<=K):jJ K l.mP/\l.mP.nodes.length=l.nodes.length/\Empty l.mP:=by
 have d:l.mP.nodes=l.nodes.map vO:=zK _ _;obtain ⟨f,j⟩:=Ll l.nodes h.air h.many (λx a=>by obtain ⟨i,r⟩:=nw a;exact (h.de i x r).2.1)
 have b:l.mP.nodes.length=l.nodes.length:=by rw[d];simp
 refine ⟨⟨by rw[b];exact h.n,λi x a=>?_,by rw[b];exact f,j⟩,b,λx a=>?_⟩
 ·rw[d,fQ]at a;cases hy:l.nodes[i]?with
  |none=>rw[hy]at a;cases a
  |some y=>rw[hy]at a;obtain rfl:=aH a;obtain ⟨c,g2,e,s⟩:=h.de i y hy;have k:=c.dv;have o:=p y (dc hy);rw[b];exact ⟨⟨⟨k.here,k.own,k.ag,k.an,k.aj,k.bt,k.now,k.fresh,k.index,k.dr,k.bk,k.jw,fE _,fE _,k.K⟩,c.pe,c.many⟩,⟨⟨g2.dv.low,g2.dv.high,λg q=>(by cases q)⟩,g2.pe⟩,e,by show(y.all++y.de.dv.aE).length<=K;rw[aK];exact o⟩
 rw[d]at a;obtain ⟨y,_,rfl⟩:=eS.1 a;exact ⟨rfl,rfl⟩
def FY:∀(l:List (No Bg Bu)) (air:List Gr),(∀x∈l,x.de.dv.out=[])->(kW air l).1=air
 |[],air,h=>rfl
 |x::l,air,h=>by rw[kW,h x pu,show iA air []=air from by unfold iA;simp];exact FY l air λy a=>h y (by simp[a])
def QX (t:af)(b c:Int):(uN t b c).length=t.length:=by unfold uN;simp
def abQ {t:af}(h:zq t)(b c:Int):zq (uN t b c):=by refine ⟨λe=>h.1 ?_,by rw[QX];exact h.2⟩;have:=QX t b c;rw[e]at this;exact List.length_eq_zero_iff.1 this.symm
def Ku (C:Cr Bg Hd Bu)(q:bD C){l:Li Bg Bu}(h:jJ K l)(c:K+8<=100000000)(a:Ac):jJ (K+8) (l.act C a).1/\(l.act C a).1.nodes.length=l.nodes.length:=by
 have qq:∀(u:List Gr),(∀g∈u,tT l.nodes.length g)->u.length<=60->jJ K {l with air:=u}:=λu j I=>⟨h.n,h.de,j,I⟩;have w:=h.more (L:=K+8) pm c;unfold Li.act;split
 ·split
  ·exact ⟨w,rfl⟩
  split
  ·exact ⟨h.on pm c a.a.toNat (λd=>(d.send C a.src a.dst a.text).1) λx f=>by obtain ⟨o,p,R,k4⟩:=h.de _ x f;exact ⟨(aah C q o pm _ _ _).more pm c,aag C q p o pm _ _ _⟩,(IF _ _ _).1⟩
  exact ⟨h.on pm c a.a.toNat (λd=>{d with dv:={d.dv with busy:=a.b==1}}) λx f=>by obtain ⟨o,p,R,k4⟩:=h.de _ x f;have k:=o.dv.more (L:=K+8) pm c;exact ⟨⟨⟨k.here,k.own,k.ag,k.an,k.aj,k.bt,k.now,k.fresh,k.index,k.dr,k.bk,k.jw,k.out,k.aE,k.K⟩,o.pe,o.many⟩,⟨⟨p.dv.low,p.dv.high,p.dv.out⟩,p.pe⟩,rfl⟩,(IF _ _ _).1⟩
 split
 ·refine ⟨⟨by simpa using h.n,λi x f=>?_,λg t=>by rw[cY];exact h.air g t,h.many⟩,pu⟩;rw[cY];rw[fQ]at f;cases hy:l.nodes[i]?with
  |none=>rw[hy]at f;cases f
  |some y=>
   rw[hy]at f;obtain rfl:=aH f;obtain ⟨j,I,h3,h4⟩:=h.de i y hy;dsimp only;by_cases P:0<=a.a/\a.a<=1099511627776-(y.de.dv.now:Int)
   ·simp only[av P];have a0:a.a.toNat+y.de.dv.now<=1099511627776:=pm;obtain ⟨g1,g2⟩:=abp C q I j c a.a.toNat a0;exact ⟨abq C q j c _ a0,g1,g2.trans h3,bJ h4 pm⟩
   simp only[au P];exact ⟨j.more pm c,I,h3,bJ h4 pm⟩
 split
 ·split
  ·exact ⟨w,rfl⟩
  rename_i g t;have a2:g∈l.air:=by
   split at t
   ·exact dc t
   cases t
  have J:=h.air g a2;split
  ·split
   ·exact ⟨w,rfl⟩
   refine ⟨(qq _ (λs e=>?_) (by have:=h.many;simp;omega)).more pm c,rfl⟩;rcases bG.1 e with e|e
   ·exact h.air s e
   rw[jG.1 e];exact J
  split
  ·refine ⟨(qq _ (λs e=>?_) (by simpa using h.many)).more pm c,rfl⟩;rcases pH e with e|rfl
   ·exact h.air s e
   obtain ⟨r,U,b3,v⟩:=J;exact ⟨r,U,b3,abQ v _ _⟩
  have j:jJ K ({l with air:=l.air.eraseIdx a.a.toNat}:Li Bg Bu):=qq _ (λs e=>h.air s (List.mem_of_mem_eraseIdx e)) (bJ (List.length_eraseIdx_le _ _) h.many);try dsimp only
  split
  ·exact ⟨j.more pm c,rfl⟩
  split
  ·exact ⟨j.more pm c,rfl⟩
  refine ⟨j.on pm c (g.dst-1) (λd=>d.comes C g.src g.text) λx f=>?_,(IF _ _ _).1⟩;obtain ⟨r,U,b3,v⟩:=J;obtain ⟨o,p,R,k4⟩:=j.de _ x f;have P:=h.n;have a1:g.src<4294967296:=by have:=r.2;omega
  have hs:fZ l.nodes.length x.de.dv.here g.src:=⟨r.1,r.2,by rw[R];omega⟩;exact ⟨(Wy C q o pm a1 _ (by have:=v.2;omega)).more pm c,Wx C q p o pm a1 hs _ (by have:=v.2;omega)⟩
 exact ⟨w,rfl⟩
def Dt (d:Dv Bu)(a:Nat)(t:af):(d.dt a t).aE=d.aE:=by unfold Dv.dt;split<;>rfl
def El (C:Cr Bg Hd Bu)(d:Dv Bu)(p:Pe Bg)(t:af):(du C d p t).1.aE=d.aE:=by
 unfold du;split
 ·rfl
 split
 ·rfl
 split
 ·rfl
 exact Dt _ _ _
def Qm (C:Cr Bg Hd Bu):∀(l:List af) (d:Dv Bu) (p:Pe Bg),(iB C d p l).1.aE=d.aE
 |[],d,p=>rfl
 |t::l,d,p=>by rw[iB,Qm C l,El]
def Ng (C:Cr Bg Hd Bu)(d:Dv Bu)(p:Pe Bg):(flush C d p).1.aE=d.aE:=Qm C _ _ _
def So (C:Cr Bg Hd Bu)(d:Dv Bu)(p:Pe Bg):(jK C d p).1.aE=d.aE:=by
 unfold jK;try dsimp only
 split
 ·rfl
 exact Dt _ _ _
def MG (C:Cr Bg Hd Bu)(d:Dv Bu)(p:Pe Bg):(eJ C d p).1.aE=d.aE:=by
 unfold eJ;split
 ·split
  ·rfl
  exact So C d p
 split
 ·split
  ·exact El C d p []
  rfl
 split<;>rfl
def MB (C:Cr Bg Hd Bu):∀(l:List (Pe Bg)) (d:Dv Bu),(eK C d l).1.aE=d.aE
 |[],d=>rfl
 |p::l,d=>by rw[eK];show(eK C (eJ C d p).1 l).1.aE=d.aE;rw[MB C l,MG]
def at_got {C:Cr Bg Hd Bu}{d:De Bg Bu}{f:Dv Bu->Pe Bg->Dv Bu×Pe Bg}(a:∀p,d.aI[n]?=some p->(f d.dv p).1.aE.length<=d.dv.aE.length+m):(d.at n f).dv.aE.length<=d.dv.aE.length+m:=by
 unfold De.at;split
 ·omega
 rename_i p b;exact a p b
def aaa (C:Cr Bg Hd Bu)(d:Dv Bu)(p:Pe Bg)(t:af):(iY C d p t).1.aE=d.aE:=by
 unfold iY;try dsimp only
 rw[MG];split
 ·exact El C d p t
 rfl
def aaf (C:Cr Bg Hd Bu)(d:De Bg Bu)(src dst:Nat)(t:af):(d.send C src dst t).1.dv.aE.length<=d.dv.aE.length+1:=by
 unfold De.send;split
 ·simp
 split
 ·simp
 exact at_got (C:=C) λp a=>by rw[aaa];omega
def Xr (C:Cr Bg Hd Bu)(d:Dv Bu)(p:Pe Bg)(src:Nat)(t:jh)(x:Hd):(iz C d p src t x).1.aE=d.aE:=by
 unfold iz;split
 ·rfl
 dsimp only;split
 ·rfl
 exact Dt _ _ _
def Xw (C:Cr Bg Hd Bu)(d:De Bg Bu)(src:Nat)(s:af):(d.first C src s).dv.aE.length<=d.dv.aE.length+1:=by
 unfold De.first;split
 ·simp
 split
 ·split
  ·show d.dv.aE.length<=_;omega
  show(Dv.dt _ _ _).aE.length<=_;rw[Dt];show d.dv.aE.length<=_;omega
 dsimp only;split
 ·split
  ·show d.dv.aE.length<=_;omega
  split
  ·show d.dv.aE.length<=_;omega
  exact at_got (C:=C) (d:={d with dv:={d.dv with bk:=(C.take d.dv.bk src d.dv.now).2}}) λp a=>by rw[Xr];omega
 show d.dv.aE.length<=_;omega
def Y7 (C:Cr Bg Hd Bu)(d:Dv Bu)(p:Pe Bg)(src:Nat)(t:af)(b:Bg):(fT C d p src t b).1.aE=d.aE:=by
 unfold fT;split
 ·rfl
 dsimp only;split
 ·rfl
 rw[Ng];split
 ·exact El _ _ _ _
 rfl
def Z4 (C:Cr Bg Hd Bu)(d:De Bg Bu)(src:Nat)(s:af):(d.second C src s).dv.aE.length<=d.dv.aE.length+1:=by
 unfold De.second;split
 ·simp
 split
 ·simp
 split
 ·simp
 exact at_got (C:=C) λp a=>by
  try dsimp only
  split
  ·simp
  rw[Y7];omega
def U5 (C:Cr Bg Hd Bu)(d:De Bg Bu)(s:af):(d.fJ C s).dv.aE.length<=d.dv.aE.length+1:=by
 unfold De.fJ;split
 ·simp
 split
 ·simp
 exact at_got (C:=C) λp a=>by
  try dsimp only
  split<;>simp
def Yh (C:Cr Bg Hd Bu)(d:Dv Bu)(p:Pe Bg)(k:Sl)(n:Nat)(t:af)(src:Nat):(eO C d p k n t src).1.aE.length<=d.aE.length+1:=by
 unfold eO;split
 ·simp
 split
 ·simp
 rename_i s _ t1 a _;try dsimp only
 have b:∀x:Dv Bu×Pe Bg,x=(if k= .next then flush C d {p.put k a with aN:=(p.put k a).aL,aL:=(p.put k a).next,next:=none,br:=max (p.put k a).br a.ae,tm:=(p.put k a).tm.made,at_:=src}else(d,p.put k a))->x.1.aE=d.aE:=λx e=>by
  subst e;split
  ·exact Ng C d _
  rfl
 have b:=b _ rfl;generalize (if k= .next then flush C d {p.put k a with aN:=(p.put k a).aL,aL:=(p.put k a).next,next:=none,br:=max (p.put k a).br a.ae,tm:=(p.put k a).tm.made,at_:=src}else(d,p.put k a))=x at*;split
 ·show x.1.aE.length<=_;rw[b];omega
 split
 ·show x.1.aE.length<=_;rw[b];omega
 split
 ·show(x.1.aE++[_]).length<=_;rw[aK,b];simp
 show x.1.aE.length<=_;rw[b];omega
def WJ (C:Cr Bg Hd Bu)(d:De Bg Bu)(src:Nat)(s:af):(d.data C src s).dv.aE.length<=d.dv.aE.length+1:=by
 unfold De.data;split
 ·simp
 split
 ·simp
 split
 ·simp
 exact at_got (C:=C) λp a=>by
  try dsimp only
  split
  ·simp
  exact Yh C _ _ _ _ _ _
def Ww (C:Cr Bg Hd Bu)(d:De Bg Bu)(src:Nat)(s:af):(d.comes C src s).dv.aE.length<=d.dv.aE.length+1:=by
 unfold De.comes;split
 ·simp
 split
 ·exact Xw C d src _
 split
 ·exact Z4 C d src _
 split
 ·exact U5 C d _
 split
 ·exact WJ C d src _
 simp
def IE {l:Li Bg Bu}{f:De Bg Bu->De Bg Bu}(h:∀x∈l.nodes,x.all.length+x.de.dv.aE.length<=K)(b:∀x∈l.nodes,x.all.length+(f x.de).dv.aE.length<=K):∀x∈(l.on n f).nodes,x.all.length+x.de.dv.aE.length<=K:=by
 unfold Li.on;split
 ·exact h
 rename_i x c;intro y a;rcases pH a with a|rfl
 ·exact h y a
 exact b x (dc c)
def Kt (C:Cr Bg Hd Bu){l:Li Bg Bu}(h:∀x∈l.nodes,x.all.length+x.de.dv.aE.length<=K)(a:Ac):∀x∈(l.act C a).1.nodes,x.all.length+x.de.dv.aE.length<=K+1:=by
 have b:∀x∈l.nodes,x.all.length+x.de.dv.aE.length<=K+1:=λx c=>fX (h x c);unfold Li.act;split
 ·split
  ·exact b
  split
  ·exact IE b λx c=>by have:=h x c;have:=aaf C x.de a.src a.dst a.text;omega
  exact IE b λx c=>b x c
 split
 ·intro x c;obtain ⟨y,d,rfl⟩:=eS.1 c;have:=h y d;split
  ·show y.all.length+(eK C _ y.de.aI).1.aE.length<=_;rw[MB];show y.all.length+y.de.dv.aE.length<=_;omega
  omega
 split
 ·split
  ·exact b
  split
  ·split
   ·exact b
   exact b
  split
  ·exact b
  dsimp only;split
  ·exact b
  split
  ·exact b
  rename_i g _ _ _ _ _;exact IE (l:={l with air:=l.air.eraseIdx a.a.toNat}) b λx c=>by have:=h x c;have:=Ww C x.de g.src g.text;omega
 exact b
def MA (C:Cr Bg Hd Bu)(j:bD C){l:Li Bg Bu}(h:jJ K l)(o:Empty l)(k:K+8<=100000000)(a:Ac):jJ (K+8) (l.fF C a)/\Empty (l.fF C a)/\(l.fF C a).nodes.length=l.nodes.length:=by
 obtain ⟨e,f⟩:=Ku C j h k a;have p:=Kt C (K:=K) (l:=l) (λx b=>by obtain ⟨i,q⟩:=nw b;obtain ⟨_,_,_,g⟩:=h.de i x q;rw[(o x b).2];simpa using g) a
 obtain ⟨c,g2,d⟩:=e.mP (λx b=>bJ (p x b) pm);exact ⟨c,d,g2.trans f⟩
def R6 (C:Cr Bg Hd Bu){l:Li Bg Bu}(j:∀x∈l.nodes,x.de.dv.out=[])(a:Ac)(o:a.kind<3\/6<a.kind\/a.a<0\/(l.air.length:Int)<=a.a)(b:(l.act C a).2=some 7):(l.fF C a).air=l.air:=by
 have base:(l.act C a).1=l->(l.fF C a).air=l.air:=λe=>by unfold Li.fF;rw[e];exact FY _ _ j
 apply base;unfold Li.act at b⊢;split at b
 ·rename_i d;rw[av d];split at b
  ·rfl
  rename_i x p;split at b
  ·exfalso;unfold De.send at b;split at b
   ·cases b
   split at b<;>cases b
  cases b
 rename_i d;rw[au d];split at b
 ·exfalso;split at b
  ·cases b
  split at b<;>cases b
 rename_i f;rw[au f];split at b
 ·rename_i h;rw[av h];split at b
  ·rfl
  rename_i g c;exfalso;split at c
  ·rename_i k;have:a.a.toNat<l.air.length:=by
    rcases eR a.a.toNat l.air.length with e|e
    ·exact e
    rw[eE e]at c;cases c
   omega
  cases c
 cases b
abbrev Cd:=Nat×af×af×af×af×Nat×(Nat->Option Nat)
def sK(d:Dv Bu):Cd:=(d.here,d.own,d.ag,d.an,d.bt,d.aj,d.fB)
def wy(p:Pe Bg):Nat×af×af:=(p.number,p.ag,p.aD)
def cfg(d:De Bg Bu):Cd×List (Nat×af×af):=(sK d.dv,d.aI.map wy)
def Sf(d:Dv Bu)(p:Pe Bg)(x:Dv Bu×Pe Bg):Prop:=sK x.1=sK d/\wy x.2=wy p
def Dw (d:Dv Bu)(a:Nat)(t:af):sK (d.dt a t)=sK d:=by unfold Dv.dt;split<;>rfl
def En (C:Cr Bg Hd Bu)(d:Dv Bu)(p:Pe Bg)(t:af):Sf d p (du C d p t):=by
 unfold du;split
 ·exact ⟨rfl,rfl⟩
 split
 ·exact ⟨rfl,rfl⟩
 split
 ·exact ⟨rfl,rfl⟩
 exact ⟨Dw _ _ _,rfl⟩
def Sf.trans {d:Dv Bu}{p:Pe Bg}{x y:Dv Bu×Pe Bg}(h:Sf d p x)(k:Sf x.1 x.2 y):Sf d p y:=⟨k.1.trans h.1,k.2.trans h.2⟩
def Qp (C:Cr Bg Hd Bu):∀(l:List af) (d:Dv Bu) (p:Pe Bg),Sf d p (iB C d p l)
 |[],d,p=>⟨rfl,rfl⟩
 |t::l,d,p=>by rw[iB];exact (En C d p t).trans (Qp C l _ _)
def Hc (C:Cr Bg Hd Bu)(d:Dv Bu)(p:Pe Bg):Sf d p (flush C d p):=Qp C p.waits d {p with waits:=[]}
def Ss (C:Cr Bg Hd Bu)(d:Dv Bu)(p:Pe Bg):Sf d p (jK C d p):=by
 unfold jK;try dsimp only
 split
 ·exact ⟨rfl,rfl⟩
 exact ⟨Dw _ _ _,rfl⟩
def GM (C:Cr Bg Hd Bu)(d:Dv Bu)(p:Pe Bg):Sf d p (eJ C d p):=by
 unfold eJ;split
 ·split
  ·exact ⟨rfl,rfl⟩
  exact Ss C d p
 split
 ·split
  ·exact En C d p []
  exact ⟨rfl,rfl⟩
 split<;>exact ⟨rfl,rfl⟩
def ME (C:Cr Bg Hd Bu):∀(l:List (Pe Bg)) (d:Dv Bu),sK (eK C d l).1=sK d/\(eK C d l).2.map wy=l.map wy
 |[],d=>⟨rfl,rfl⟩
 |p::l,d=>by obtain ⟨a,b⟩:=GM C d p;obtain ⟨c,e⟩:=ME C l (eJ C d p).1;rw[eK];exact ⟨c.trans a,by rw[oC,oC,b,e]⟩
def aad (C:Cr Bg Hd Bu)(d:Dv Bu)(p:Pe Bg)(t:af):Sf d p (iY C d p t):=by
 unfold iY;try dsimp only
 split
 ·exact (En C d p t).trans (GM C _ _)
 exact Sf.trans (x:=(d,_)) ⟨rfl,rfl⟩ (GM C _ _)
def Xt (C:Cr Bg Hd Bu)(d:Dv Bu)(p:Pe Bg)(src:Nat)(t:jh)(x:Hd):Sf d p (iz C d p src t x):=by
 unfold iz;split
 ·exact ⟨rfl,rfl⟩
 dsimp only;split
 ·exact ⟨rfl,rfl⟩
 exact ⟨Dw _ _ _,rfl⟩
def Y' (C:Cr Bg Hd Bu)(d:Dv Bu)(p:Pe Bg)(src:Nat)(t:af)(b:Bg):Sf d p (fT C d p src t b):=by
 unfold fT;split
 ·exact ⟨rfl,rfl⟩
 dsimp only;split
 ·exact ⟨rfl,rfl⟩
 split
 ·refine Sf.trans (x:=(d,_)) ?_ ((En C d _ []).trans (Hc C _ _));exact ⟨rfl,rfl⟩
 exact Hc C d _
def PU (p:Pe Bg)(k:Sl)(s:Se):wy (p.put k s)=wy p:=by cases k<;>rfl
def Yk (C:Cr Bg Hd Bu)(d:Dv Bu)(p:Pe Bg)(k:Sl)(n:Nat)(t:af)(src:Nat):Sf d p (eO C d p k n t src):=by
 unfold eO;split
 ·exact ⟨rfl,rfl⟩
 split
 ·exact ⟨rfl,rfl⟩
 rename_i s _ t1 a _;try dsimp only
 have f:∀x:Dv Bu×Pe Bg,x=(if k= .next then flush C d {p.put k a with aN:=(p.put k a).aL,aL:=(p.put k a).next,next:=none,br:=max (p.put k a).br a.ae,tm:=(p.put k a).tm.made,at_:=src}else(d,p.put k a))->Sf d p x:=λx e=>by
  subst e;split
  ·obtain ⟨b,c⟩:=Hc C d {p.put k a with aN:=(p.put k a).aL,aL:=(p.put k a).next,next:=none,br:=max (p.put k a).br a.ae,tm:=(p.put k a).tm.made,at_:=src};exact ⟨b,c.trans (PU p k a)⟩
  exact ⟨rfl,PU p k a⟩
 have f:=f _ rfl;generalize (if k= .next then flush C d {p.put k a with aN:=(p.put k a).aL,aL:=(p.put k a).next,next:=none,br:=max (p.put k a).br a.ae,tm:=(p.put k a).tm.made,at_:=src}else(d,p.put k a))=x at*;obtain ⟨b,c⟩:=f;split
 ·exact ⟨b,c⟩
 split
 ·exact ⟨b,c⟩
 split
 ·exact ⟨b,c⟩
 exact ⟨b,c⟩
def at_st {d:De Bg Bu}{f:Dv Bu->Pe Bg->Dv Bu×Pe Bg}(e:∀p,d.aI[n]?=some p->Sf d.dv p (f d.dv p)):cfg (d.at n f)=cfg d:=by
 unfold De.at;split
 ·rfl
 rename_i p a;obtain ⟨b,c⟩:=e p a;unfold cfg;rw[b];congr 1;rw[pP,c];apply oy;intro j;rw[qN];split
 ·rename_i g;subst g;rw[fQ,a];split
  ·rfl
  rename_i h;rw[cY]at h;rw[eE pm]at a;cases a
 rfl
def aai (C:Cr Bg Hd Bu)(d:De Bg Bu)(src dst:Nat)(t:af):cfg (d.send C src dst t).1=cfg d:=by
 unfold De.send;split
 ·rfl
 split
 ·rfl
 exact at_st λp a=>aad C _ _ _
def abr (C:Cr Bg Hd Bu)(d:De Bg Bu)(n:Nat):cfg (d.tick C n)=cfg d:=by obtain ⟨a,b⟩:=ME C d.aI {d.dv with now:=d.dv.now+n};unfold De.tick cfg;rw[b];exact iQ (·,_) a
def XA (C:Cr Bg Hd Bu)(d:De Bg Bu)(src:Nat)(s:af):cfg (d.first C src s)=cfg d:=by
 unfold De.first;split
 ·rfl
 split
 ·split
  ·rfl
  exact iQ (·,_) (Dw d.dv.fu _ _)
 dsimp only;split
 ·split
  ·rfl
  split
  ·rfl
  exact at_st (d:={d with dv:={d.dv with bk:=(C.take d.dv.bk src d.dv.now).2}}) λp a=>Xt C _ _ _ _ _
 rfl
def Z' (C:Cr Bg Hd Bu)(d:De Bg Bu)(src:Nat)(s:af):cfg (d.second C src s)=cfg d:=by
 unfold De.second;split
 ·rfl
 split
 ·rfl
 split
 ·rfl
 exact at_st λp a=>by
  try dsimp only
  split
  ·exact ⟨rfl,rfl⟩
  exact Y' C _ _ _ _ _
def U8 (C:Cr Bg Hd Bu)(d:De Bg Bu)(s:af):cfg (d.fJ C s)=cfg d:=by
 unfold De.fJ;split
 ·rfl
 split
 ·rfl
 exact at_st λp a=>by
  try dsimp only
  split<;>exact ⟨rfl,rfl⟩
def WN (C:Cr Bg Hd Bu)(d:De Bg Bu)(src:Nat)(s:af):cfg (d.data C src s)=cfg d:=by
 unfold De.data;split
 ·rfl
 split
 ·rfl
 split
 ·rfl
 exact at_st λp a=>by
  try dsimp only
  split
  ·exact ⟨rfl,rfl⟩
  exact Yk C _ _ _ _ _ _
def Wz (C:Cr Bg Hd Bu)(d:De Bg Bu)(src:Nat)(s:af):cfg (d.comes C src s)=cfg d:=by
 unfold De.comes;split
 ·rfl
 split
 ·exact XA C d src _
 split
 ·exact Z' C d src _
 split
 ·exact U8 C d _
 split
 ·exact WN C d src _
 rfl
def rD(l:Li Bg Bu):List (Cd×List (Nat×af×af)):=l.nodes.map λx=>cfg x.de
def IG {l:Li Bg Bu}{f:De Bg Bu->De Bg Bu}(b:∀d,cfg (f d)=cfg d):rD (l.on n f)=rD l:=by
 unfold Li.on rD;split
 ·rfl
 rename_i x a;dsimp only;rw[pP];apply oy;intro j;rw[qN];split
 ·rename_i c;subst c;rw[fQ,a];split
  ·show some (cfg (f x.de))=_;rw[b];rfl
  rename_i e;rw[cY]at e;rw[eE pm]at a;cases a
 rfl
def RW (C:Cr Bg Hd Bu)(l:Li Bg Bu)(a:Ac):rD (l.act C a).1=rD l:=by
 unfold Li.act;split
 ·split
  ·rfl
  split
  ·exact IG λd=>aai C d _ _ _
  exact IG λd=>rfl
 split
 ·unfold rD;dsimp only;rw[Ca];apply By;intro x b;show cfg (if _ then _ else _:No Bg Bu).de=_;split
  ·exact abr C _ _
  rfl
 split
 ·split
  ·rfl
  split
  ·split<;>rfl
  split
  ·rfl
  dsimp only;split
  ·rfl
  split
  ·rfl
  exact IG λd=>Wz C d _ _
 rfl
def WQ (C:Cr Bg Hd Bu)(l:Li Bg Bu)(a:Ac):rD (l.fF C a)=rD l:=by rw[<-RW C l a];unfold Li.fF Li.mP rD;dsimp only;rw[zK,Ca];rfl
def tV(d:De Bg Bu):Prop:=∀a n,d.dv.fB a=some n->n<d.aI.length
def X0 {d e:De Bg Bu}(h:cfg e=cfg d)(k:tV d):tV e:=λa n b=>by
 have c:sK e.dv=sK d.dv:=iQ Prod.fst h;have f:e.dv.fB=d.dv.fB:=iQ (λz:Cd=>z.2.2.2.2.2.2) c;have g:e.aI.length=d.aI.length:=by have:=iQ (λz=>z.2.length) h;simpa[cfg]using this
 rw[g];rw[f]at b;exact k a n b
end
end Go.Proofs.YtmomfbkpniblgaaGreatDoor
