/- A part of this claim's proof. -/
import Derived.Test.YtmomfbkpniblgaaGreatDoorYj31
import Derived.Test.YtmomfbkpniblgaaGreatDoorYj34
import Derived.Test.YtmomfbkpniblgaaGreatDoorYj35
import Derived.Test.YtmomfbkpniblgaaGreatDoorYj29
set_option linter.all false
set_option maxHeartbeats 8000000
namespace Go.Proofs.YtmomfbkpniblgaaGreatDoor
open Go.Proofs.Tryz
variable {j n s:Nat}
section
open Go.RowKit Top
section
variable(s:Nat)(own peer once:af)(sec nano aj:Nat)
def Ct:MS:=MS.both s ⟨nG s peer,0⟩ (cS once eB)
def zC:MS:=(Ct s peer once).bt s once peer
def Cv:af:=(zC s peer once).qB s (cS own eB)
def Cu:MS:=(zC s peer once).kK s (cS own eB)
def zD:MS:=(Cu s own peer once).bt s own peer
def zE:af:=rN (sec:Int) (nano:Int)++[UInt8.ofNat aj]
def Cw:af:=(zD s own peer once).qB s (zE sec nano aj)
def xI:MS:=(zD s own peer once).kK s (zE sec nano aj)
end
def Cs(s:Nat)(own peer aD once:af)(sec nano aj id:Nat):Option (af×Bg):=
 if(xI s own peer once sec nano aj).e=0then some (1::UInt8.ofNat s::(aP id 4++(cS once eB++(Cv s own peer once++Cw s own peer once sec nano aj))),⟨s,(xI s own peer once sec nano aj).x,own,peer,aD,once,id⟩)else none
def MS.Qk {M:MS}{k u:af}(h:(M.bt s k u).e=0):M.e=0:=by
 unfold MS.bt at h;split at h
 ·assumption
 exact h
def MS.Jg {M:MS}{t:af}(h:(M.kK s t).e=0):M.e=0:=by
 unfold MS.kK at h;split at h
 ·assumption
 exact h
def MS.Pq {M:MS}{t:af}(h:(M.open s t).e=0):M.e=0:=by
 unfold MS.open at h;split at h
 ·assumption
 exact h
def MS.Jf {M:MS}(o:M.dI j)(h:M.e=0)(t:af):(M.qB s t).length=t.length+16:=by unfold MS.qB;rw[av h];exact NS.Mu o.k t
def MS.II {M:MS}(o:M.dI j){c:af}(h:(M.open s c).e=0):(M.nW s c).length+16=c.length:=by
 have a:=MS.Pq h;unfold MS.nW;unfold MS.open at h;rw[av a]at h⊢;cases e:mv s M.x.k M.x.n M.x.h c with
 |none=>rw[e]at h;exfalso;have:iW c=0:=h;unfold iW at this;split at this<;>omega
 |some t=>exact Pp o.k e
def Ju (a b:Int):(rN a b).length=12:=by unfold rN;rw[aK,fw,fw]
def KI (sec nano aj:Nat):(zE sec nano aj).length=13:=by unfold zE;rw[aK,Ju];rfl
section
variable(s:Nat)(h12:s=1\/s=2)(own peer once:af)(sec nano aj:Nat)
include h12
def KE:(Ct s peer once).dI 0:=MS.dI.both (zA s h12 peer) (fE _) s 0 _
def KF:(zC s peer once).dI 0:=(KE s h12 peer once).bt s _ _
def KG:(Cu s own peer once).dI 1:=(KF s h12 peer once).kK pm s _
def KH:(zD s own peer once).dI 1:=(KG s h12 own peer once).bt s _ _
def Su:(xI s own peer once sec nano aj).dI 2:=(KH s h12 own peer once).kK pm s _
end
def xW {M:MS}(o:M.dI j)(h:j<=999):M.dI 999:=⟨o.ok,o.k,bJ o.n h,o.e⟩
def EB (h:n=1\/n=2):(UInt8.ofNat n).toNat=n:=by rcases h with e|e<;>rw[e]<;>rfl
def TZ (a:Nat)(own peer aD once:af)(sec nano aj id:Nat)(f:a=1\/a=2)(h1:own.length=32)(k:peer.length=32)(h3:aD.length=32)(l:once.length=32)(h5:sec<=1099511627776)(h6:nano<=999999999)(o:aj=1\/aj=2)(h8:id<4294967296):
 (∀s b,Cs a own peer aD once sec nano aj id=some (s,b)->s.length=115/\xz b)/\∃c:Nat,c≠0/\c<=15/\∀w:World,Calls prog 171 #[.agg #[.int .i64 a,S own,S peer,S aD],S once, .agg #[.int .i64 sec, .int .i64 nano], .int .i64 aj, .int .u32 id] w (JY c (Cs a own peer aD once sec nano aj id) w):=by
 have f1:=KE a f peer once;have f2:=KF a f peer once;have f3:=KG a f own peer once;have f4:=KH a f own peer once;have f5:=Su a f own peer once sec nano aj;have p:(cS once eB).length=32:=ti _ _;have q:(cS own eB).length=32:=ti _ _;have I:=λW:World=>aaL W (sec:Int) (nano:Int) (by unfold nT;simp;omega);have y:=λW:World=>vQ W a f;have z:=λW:World=>vQ W aj o;have C:∀W:World,Calls prog 219 #[.slice (some ⟨W.heap.size,0,none⟩) 4 4] (W.alloc (.cells #[S own,S peer,S aD,S once] 9)) (λe r=>e= .returned (.bool true)/\(W.alloc (.cells #[S own,S peer,S aD,S once] 9))=r):=λW=>
  CR _ W.heap.size 4 [own,peer,aD,once] rfl pm (λi hi=>by
   rw[cK (aO W _)];have l:i=0\/i=1\/i=2\/i=3:=by simp at hi;omega
   rcases l with rfl|rfl|rfl|rfl<;>rfl) (λx hx=>by
   simp only[bp,dD,dH]at hx;rcases hx with rfl|rfl|rfl|rfl<;>assumption)
 have v:∀W:World,Calls prog 220 #[.int .i64 a,S peer] W (λe r=>∃m b,e= .returned (.pointer (some ⟨m,0,none⟩))/\Mx W r m b a (nG a peer)):=λW=>Mi W a f peer pm;have P1:=λW:World=>xP W once l;have P2:=λW:World=>xP W own h1;have J:∀(d W:World) (m b:Nat),bF d W m b a ⟨nG a peer,0⟩->Calls prog 221 #[.pointer (some ⟨m,0,none⟩),S (cS once eB)] W (cU d m b a (.tuple #[]) (Ct a peer once)):=λd W m b h=>DQ d W m b a f _ (zA a f peer) _ pm h;have P:∀(d W:World) (m b:Nat),bF d W m b a (Ct a peer once)->Calls prog 222 #[.pointer (some ⟨m,0,none⟩),S once,S peer] W (cU d m b a (.tuple #[]) (zC a peer once)):=λd W m b h=>uE d W m b a f _ f1.ok once peer l (λ_=>k) h;have R:∀(d W:World) (m b:Nat),bF d W m b a (zC a peer once)->Calls prog 223 #[.pointer (some ⟨m,0,none⟩),S (cS own eB)] W (cU d m b a (S (Cv a own peer once)) (Cu a own peer once)):=λd W m b h=>Iy d W m b a f _ (xW f2 pm) _ pm h;have U:∀(d W:World) (m b:Nat),bF d W m b a (Cu a own peer once)->Calls prog 222 #[.pointer (some ⟨m,0,none⟩),S own,S peer] W (cU d m b a (.tuple #[]) (zD a own peer once)):=λd W m b h=>uE d W m b a f _ f3.ok own peer h1 (λ_=>k) h
 have C5:∀(d W:World) (m b:Nat),bF d W m b a (zD a own peer once)->Calls prog 223 #[.pointer (some ⟨m,0,none⟩),S (zE sec nano aj)] W (cU d m b a (S (Cw a own peer once sec nano aj)) (xI a own peer once sec nano aj)):=λd W m b h=>Iy d W m b a f _ (xW f4 pm) _ (by rw[KI];omega) h;have u:=λW:World=>GC W id h8;have ub:IntKind.u8.wrap (aj:Int)=(aj:Int):=xt _ (by rcases o with e|e<;>omega);have us:IntKind.u8.wrap (a:Int)=(a:Int):=xt _ (by rcases f with e|e<;>omega);have CB:=λW:World=>uh W aj (UInt8.ofNat aj) (EB o);unfold Cs;by_cases g:(xI a own peer once sec nano aj).e=0
 ·rw[av g];have e4:=MS.Jg g;have e3:=MS.Qk e4;have e2:=MS.Jg e3;have la:(Cv a own peer once).length=48:=by unfold Cv;rw[MS.Jf f2 e2,q]
  have lb:(Cw a own peer once sec nano aj).length=29:=by unfold Cw;rw[MS.Jf f4 e4,KI]
  refine ⟨λt b e=>?_,1,pm,pm,λw=>?_⟩
  ·obtain ⟨rfl,rfl⟩:=vB (aH e);exact ⟨by simp only[eI,aK,gE,p,la,lb],⟨f,f5.ok,h1,k,h3,l,h8⟩⟩
  exact Ms w a aj id (sec:Int) (nano:Int) own peer aD once _ _ _ _ (rN (sec:Int) (nano:Int)) (aP id 4) _ _ _ _ _ _ f I y z k p q C v P1 P2 J P R U C5 u ub us CB (Ju _ _) (gE _ _) _ (.inr ⟨g,la,lb,λ_ _ h=>h⟩)
 rw[au g];refine ⟨λt b e=>(by cases e),(xI a own peer once sec nano aj).e,g,f5.e,λw=>?_⟩;exact Ms w a aj id (sec:Int) (nano:Int) own peer aD once _ _ _ _ (rN (sec:Int) (nano:Int)) (aP id 4) _ _ _ _ _ _ f I y z k p q C v P1 P2 J P R U C5 u ub us CB (Ju _ _) (gE _ _) _ (.inl ⟨g,λ_ _ h=>h⟩)
section
variable(s:Nat)(own first:af)
def pb:af:=(first.drop 6).take 32
def sW:af:=(first.drop 38).take 48
def sX:af:=(first.drop 86).take 29
def mm:MS:=MS.both s ⟨nG s (cS own eB),0⟩ (pb first)
def fH:MS:=(mm s own first).bt s own (pb first)
def nS:af:=(fH s own first).nW s (sW first)
def nR:MS:=(fH s own first).open s (sW first)
def qo:MS:=(nR s own first).bt s own (nS s own first)
def ry:af:=(qo s own first).nW s (sX first)
def ux:MS:=(qo s own first).open s (sX first)
end
section
variable(s:Nat)(h12:s=1\/s=2)(own first:af)
include h12
def NU:(mm s own first).dI 0:=MS.dI.both (zA s h12 _) (fE _) s 0 _
def NW:(fH s own first).dI 0:=(NU s h12 own first).bt s _ _
def NX:(nR s own first).dI 1:=(NW s h12 own first).open pm s _
def NY:(qo s own first).dI 1:=(NX s h12 own first).bt s _ _
def Ym:(ux s own first).dI 2:=(NY s h12 own first).open pm s _
end
def iN(m:af):Nat:=(m.getD 1 0).toNat
def mV(s:Nat)(own first:af):Nat:=((ry s own first).getD 12 0).toNat
def ft(s:Nat)(own first:af):af:=(ry s own first).take 12
def vY(own first:af):Option (jh×Hd):=
 if mT first 115 1≠0then none else
 if(ux (iN first) own first).e≠0then none else
 if nT (lG (ft (iN first) own first)) (lE (ft (iN first) own first))=true/\(mV (iN first) own first=1\/mV (iN first) own first=2)then
  some (⟨iN first,aQ ((first.drop 2).take 4),nS (iN first) own first,(lG (ft (iN first) own first)).toNat,(lE (ft (iN first) own first)).toNat,mV (iN first) own first⟩,
   ⟨iN first,(ux (iN first) own first).x,aQ ((first.drop 2).take 4),pb first,nS (iN first) own first⟩)else none
def Nl {l:af}{c:UInt8}(h:mT l n c=0):l.length=n/\l.getD 0 0=c/\(iN l=1\/iN l=2):=by
 unfold mT at h;split at h
 ·omega
 split at h
 ·omega
 rename_i k a;have g:l.length=n:=uX λe=>a (Or.inl e);have i:l.getD 0 0=c:=uX λe=>a (Or.inr (Or.inl e));refine ⟨g,i,?_⟩;by_cases d:iN l=1
 ·exact Or.inl d
 by_cases f:iN l=2
 ·exact Or.inr f
 exact absurd (Or.inr (Or.inr ⟨d,f⟩)) a
def Nk (l:af)(n:Nat)(c:UInt8):mT l n c<=15:=by unfold mT;split<;>(try split)<;>omega
def Nt {l:af}{i:Nat}(h:l.length=n)(a:i<n):l[i]?=some (l.getD i 0):=by rw[dh,aW pm];rfl
def QO {l:af}(h:l.length=n)(a:2<=n):l[1]?=some (UInt8.ofNat (iN l)):=by rw[Nt h pm];unfold iN;rw[Fc]
def Ak (l:af):aQ (l.take 4)<4294967296:=by
 have h:=wh (l.take 4);have a:(l.take 4).length<=4:=by rw[aJ];omega
 exact fW h (lI pm a:256^(l.take 4).length<=256^4)
def DL w (l:af):Calls prog 92 #[S (l.take 4)] w λe a=>e= .returned (.int .u64 (aQ (l.take 4)))/\w=a:=by have h:=qG w (l.take 4) (by rw[aJ];omega);rwa[cE (by rw[aJ];omega:(l.take 4).length<=8)]at h
def Zd {a b:Int}(h:nT a b=true):0<=a/\a<=1099511627776/\0<=b/\b<=999999999:=by unfold nT at h;simp at h;omega
def Rb (l:af):IntKind.u32.wrap (aQ (l.take 4):Int)=(aQ (l.take 4):Int):=pN _ ⟨pm,by have:=Ak l;omega⟩
def Vc (own first:af)(h1:own.length=32)(hl:first.length<=2000):
 (∀t h,vY own first=some (t,h)->vG h/\(t.ae=1\/t.ae=2)/\t.index<4294967296/\t.sec<=1099511627776/\t.nano<=999999999/\(t.aj=1\/t.aj=2))/\∃c:Nat,c≠0/\c<=15/\∀w:World,Calls prog 177 #[S own,S first] w (Cf c (vY own first) w):=by
 by_cases l:mT first 115 1=0
 rotate_left
 ·have e:vY own first=none:=by unfold vY;rw[av l]
  rw[e];refine ⟨λt h e=>(by cases e),mT first 115 1,l,Nk _ _ _,λw=>?_⟩;have h:=Wn w own first h1 (mT first 115 1:Int) (by rw[dY];omega) λW=>GB W first 1 115 hl pm pm;exact h
 obtain ⟨p,hk,d⟩:=Nl l;obtain ⟨s,a3⟩:=kq (iN first);have hN:vY own first=if(ux s own first).e≠0then none else
  if nT (lG (ft s own first)) (lE (ft s own first))=true/\(mV s own first=1\/mV s own first=2)then
  some (⟨s,aQ ((first.drop 2).take 4),nS s own first,(lG (ft s own first)).toNat,(lE (ft s own first)).toNat,mV s own first⟩,
   ⟨s,(ux s own first).x,aQ ((first.drop 2).take 4),pb first,nS s own first⟩)else none:=by unfold vY;rw[au (by simpa using l),<-a3]
 rw[hN];rw[<-a3]at d;have q:=QO p pm;rw[<-a3]at q;have f1:=NU s d own first;have f2:=NW s d own first;have f3:=NX s d own first;have f4:=NY s d own first;have f5:=Ym s d own first;have lO:(pb first).length=32:=by unfold pb;rw[aJ,aR];omega
 have lA:(sW first).length=48:=by unfold sW;rw[aJ,aR];omega
 have lB:(sX first).length=29:=by unfold sX;rw[aJ,aR];omega
 have lP:(cS own eB).length=32:=ti _ _;have lS:(nR s own first).e=0->(nS s own first).length=32:=λe=>by have:=MS.II f2 e;unfold nS;omega
 have z:∀W:World,Calls prog 219 #[.slice (some ⟨W.heap.size,0,none⟩) 1 1] (W.alloc (.cells #[S own] 9)) (λe r=>e= .returned (.bool true)/\(W.alloc (.cells #[S own] 9))=r):=λW=>
  CR _ W.heap.size 1 [own] rfl pm (λi hi=>by
   rw[cK (aO W _)];have h4:i=0:=by simp at hi;omega
   rcases h4 with rfl;rfl) (λx hx=>by
   simp only[bp,dD,dH]at hx;rcases hx with rfl;exact h1)
 have v:∀W:World,Calls prog 237 #[S first, .int .i64 115, .int .u8 1] W (λe r=>e= .returned (.int .i64 0)/\W=r):=λW=>by have h:=GB W first 1 115 hl pm pm;rw[l]at h;exact h
 have C:=λW:World=>xP W own h1;have u:∀W:World,Calls prog 220 #[.int .i64 s,S (cS own eB)] W (λe r=>∃m b,e= .returned (.pointer (some ⟨m,0,none⟩))/\Mx W r m b s (nG s (cS own eB))):=λW=>Mi W s d _ pm;have J:∀(a W:World) (m b:Nat),bF a W m b s ⟨nG s (cS own eB),0⟩->Calls prog 221 #[.pointer (some ⟨m,0,none⟩),S (pb first)] W (cU a m b s (.tuple #[]) (mm s own first)):=λa W m b h=>DQ a W m b s d _ (zA s d _) _ pm h;have P:∀(a W:World) (m b:Nat),bF a W m b s (mm s own first)->Calls prog 222 #[.pointer (some ⟨m,0,none⟩),S own,S (pb first)] W (cU a m b s (.tuple #[]) (fH s own first)):=λa W m b h=>uE a W m b s d _ f1.ok own _ h1 (λ_=>lO) h;have R:∀(a W:World) (m b:Nat),bF a W m b s (fH s own first)->Calls prog 238 #[.pointer (some ⟨m,0,none⟩),S (sW first)] W (cU a m b s (S (nS s own first)) (nR s own first)):=λa W m b h=>Ix a W m b s d _ (xW f2 pm) _ pm h;have U:∀(a W:World) (m b:Nat),bF a W m b s (nR s own first)->Calls prog 222 #[.pointer (some ⟨m,0,none⟩),S own,S (nS s own first)] W (cU a m b s (.tuple #[]) (qo s own first)):=λa W m b h=>uE a W m b s d _ f3.ok own _ h1 lS h
 have C5:∀(a W:World) (m b:Nat),bF a W m b s (qo s own first)->Calls prog 238 #[.pointer (some ⟨m,0,none⟩),S (sX first)] W (cU a m b s (S (ry s own first)) (ux s own first)):=λa W m b h=>Ix a W m b s d _ (xW f4 pm) _ pm h;have us:IntKind.u8.wrap (s:Int)=(s:Int):=xt _ (by rcases d with e|e<;>omega);have cs:((UInt8.ofNat s).toNat:Int)=(s:Int):=by rw[EB d]
 have a1:IntKind.i64.wrap (s:Int)=(s:Int):=dG _ (by rcases d with e|e<;>omega);have ms:(s:Int)%256=(s:Int):=by rcases d with e|e<;>omega
 by_cases f:(ux s own first).e=0
 ·rw[au (by simpa using f)];have e4:=MS.Pq f;have e3:=MS.Qk e4;have lR:(ry s own first).length=13:=by have:=MS.II f4 f;unfold ry;omega
  have lT:(ft s own first).length=12:=by unfold ft;rw[aJ];omega
  have a2:mV s own first<256:=vu _;have a4:(ry s own first)[12]?=some (UInt8.ofNat (mV s own first)):=by rw[Nt lR pm];unfold mV;rw[Fc]
  by_cases o:nT (lG (ft s own first)) (lE (ft s own first))=true
  ·have a0:0<=lG (ft s own first)/\lG (ft s own first)<=1099511627776/\0<=lE (ft s own first)/\lE (ft s own first)<=999999999:=Zd o;have I:∀W:World,Calls prog 239 #[S (ft s own first)] W (Grown (.tuple #[.agg #[.int .i64 (lG (ft s own first)), .int .i64 (lE (ft s own first))], .int .i64 0]) W):=λW=>by have h:=QL W (ft s own first) lT;rw[av o]at h;exact h
   by_cases k:mV s own first=1\/mV s own first=2
   ·rw[av ⟨o,k⟩];refine ⟨λt h e=>?_,1,pm,pm,λw=>?_⟩
    ·obtain ⟨rfl,rfl⟩:=vB (aH e);exact ⟨⟨d,f5.ok,Ak _,lO,lS e3⟩,d,Ak _,Int.toNat_le.2 a0.2.1,Int.toNat_le.2 a0.2.2.2,k⟩
    have h:=Dd w s own (cS own eB) first (pb first) (sW first) (sX first) (nS s own first) (ry s own first) _ _ _ _ _ _ z v C u J P R U C5 us cs a1 ms p rfl rfl rfl q _ (.inr ⟨f,lR,lG (ft s own first),lE (ft s own first),mV s own first,aQ ((first.drop 2).take 4),ft s own first,(first.drop 2).take 4,rfl,a4,a2, .inr (.inr ⟨I,λW=>vQ W _ k,λW=>DL W (first.drop 2),Rb (first.drop 2),rfl,λ_ _ h=>h⟩)⟩);have e1:(((lG (ft s own first)).toNat:Nat):Int)=lG (ft s own first):=BC a0.1;have e2:(((lE (ft s own first)).toNat:Nat):Int)=lE (ft s own first):=BC a0.2.2.1;refine h.mono ?_;rintro e y ⟨g,rfl,hB,hg,hl⟩;refine ⟨g,?_,hB,hg,hl⟩;unfold JK;dsimp only;rw[e1,e2];rfl
   rw[au (λh=>k h.2)];refine ⟨λt h e=>(by cases e),5,pm,pm,λw=>?_⟩;exact Dd w s own (cS own eB) first (pb first) (sW first) (sX first) (nS s own first) (ry s own first) _ _ _ _ _ _ z v C u J P R U C5 us cs a1 ms p rfl rfl rfl q _ (.inr ⟨f,lR,lG (ft s own first),lE (ft s own first),mV s own first,0,ft s own first,[],rfl,a4,a2, .inr (.inl ⟨I,λW=>Gm W _ (λe=>k (Or.inl e)) (λe=>k (Or.inr e)),λ_ _ h=>h⟩)⟩)
  rw[au (λh=>o h.1)];refine ⟨λt h e=>(by cases e),5,pm,pm,λw=>?_⟩;have I:∀W:World,Calls prog 239 #[S (ft s own first)] W (Grown (.tuple #[.agg #[.int .i64 0, .int .i64 0], .int .i64 5]) W):=λW=>by have h:=QL W (ft s own first) lT;rw[au o]at h;exact h
  exact Dd w s own (cS own eB) first (pb first) (sW first) (sX first) (nS s own first) (ry s own first) _ _ _ _ _ _ z v C u J P R U C5 us cs a1 ms p rfl rfl rfl q _ (.inr ⟨f,lR,0,0,mV s own first,0,ft s own first,[],rfl,a4,a2, .inl ⟨5,rfl,I,λ_ _ h=>h⟩⟩)
 rw[av f];refine ⟨λt h e=>(by cases e),(ux s own first).e,f,f5.e,λw=>?_⟩;exact Dd w s own (cS own eB) first (pb first) (sW first) (sX first) (nS s own first) (ry s own first) _ _ _ _ _ _ z v C u J P R U C5 us cs a1 ms p rfl rfl rfl q _ (.inl ⟨f,λ_ _ h=>h⟩)
end
section
open Go.RowKit Top
section
variable(h:Hd)(aD once:af)(aj:Nat)
def Cl:MS:=MS.both h.s ⟨h.x,0⟩ (cS once eB)
def Cm:MS:=(Cl h once).bt h.s once h.once
def Cn:MS:=(Cm h once).bt h.s once h.static
def zu:MS:=(Cn h once).aD h.s aD
def Co:af:=(zu h aD once).qB h.s [UInt8.ofNat aj]
def qZ:MS:=(zu h aD once).kK h.s [UInt8.ofNat aj]
def Cp(id:Nat):Option (af×af×af):=
 if(qZ h aD once aj).e=0then some (2::UInt8.ofNat h.s::(aP id 4++(aP h.index 4++(cS once eB++Co h aD once aj))),fM h.s (qZ h aD once aj).x.c [],gI h.s (qZ h aD once aj).x.c [])else none
end
section
variable{h:Hd}(ok:vG h)(aD once:af)(aj:Nat)
include ok
def Kx:(Cl h once).dI 0:=MS.dI.both ok.x (fE _) _ 0 _
def Ky:(Cm h once).dI 0:=(Kx ok once).bt _ _ _
def FD:(Cn h once).dI 0:=(Ky ok once).bt _ _ _
def KA:(zu h aD once).dI 0:=MS.dI.aD (FD ok once).ok (FD ok once).e _ 0 _
def Sg:(qZ h aD once aj).dI 1:=(KA ok aD once).kK pm _ _
end
def TW (h:Hd)(aD once:af)(aj id:Nat)(ok:vG h)(h1:aD.length=32)(q:once.length=32)(l:aj=1\/aj=2)(hid:id<4294967296):
 (∀s p o,Cp h aD once aj id=some (s,p,o)->s.length=59/\p.length=32/\o.length=32)/\∃c:Nat,c≠0/\c<=15/\∀(w:World) (g:Nat),ab w g 323 (uv h)->Calls prog 179 #[ptr g,S aD,S once, .int .i64 aj, .int .u32 id] w (Cb c (Cp h aD once aj id) w):=by
 have d:=ok.s;have f1:=Kx ok once;have f2:=Ky ok once;have f3:=FD ok once;have f4:=KA ok aD once;have f5:=Sg ok aD once aj;have u:(cS once eB).length=32:=ti _ _;have C:∀W:World,Calls prog 219 #[.slice (some ⟨W.heap.size,0,none⟩) 2 2] (W.alloc (.cells #[S aD,S once] 9)) (λe w'=>e= .returned (.bool true)/\(W.alloc (.cells #[S aD,S once] 9))=w'):=λW=>
  CR _ W.heap.size 2 [aD,once] rfl pm (λi hi=>by
   rw[cK (aO W _)];have h4:i=0\/i=1:=by simp at hi;omega
   rcases h4 with rfl|rfl<;>rfl) (λx hx=>by
   simp only[bp,dD,dH]at hx;rcases hx with rfl|rfl<;>assumption)
 have z:=λW:World=>vQ W aj l;have I:=λW:World=>xP W once q;have J:∀(a W:World) (m b:Nat),bF a W m b h.s ⟨h.x,0⟩->Calls prog 221 #[.pointer (some ⟨m,0,none⟩),S (cS once eB)] W (cU a m b h.s (.tuple #[]) (Cl h once)):=λa W m b k=>DQ a W m b h.s d _ ok.x _ pm k;have P:∀(a W:World) (m b:Nat),bF a W m b h.s (Cl h once)->Calls prog 222 #[.pointer (some ⟨m,0,none⟩),S once,S h.once] W (cU a m b h.s (.tuple #[]) (Cm h once)):=λa W m b k=>uE a W m b h.s d _ f1.ok once _ q (λ_=>ok.once) k;have R:∀(a W:World) (m b:Nat),bF a W m b h.s (Cm h once)->Calls prog 222 #[.pointer (some ⟨m,0,none⟩),S once,S h.static] W (cU a m b h.s (.tuple #[]) (Cn h once)):=λa W m b k=>uE a W m b h.s d _ f2.ok once _ q (λ_=>ok.static) k;have U:∀(a W:World) (m b:Nat),bF a W m b h.s (Cn h once)->Calls prog 242 #[.pointer (some ⟨b,0,none⟩),S aD] W (cU a m b h.s (.tuple #[]) (zu h aD once)):=λa W m b k=>(OP W b h.s d _ f3.ok aD pm k.st).mono λe w' ⟨k1,k2,k3⟩=>⟨k1,k.step k2 k3⟩;have C5:∀(a W:World) (m b:Nat),bF a W m b h.s (zu h aD once)->Calls prog 223 #[.pointer (some ⟨m,0,none⟩),S [UInt8.ofNat aj]] W (cU a m b h.s (S (Co h aD once aj)) (qZ h aD once aj)):=λa W m b k=>Iy a W m b h.s d _ (xW f4 pm) _ pu k
 have C6:∀(a W:World) (m b:Nat),bF a W m b h.s (qZ h aD once aj)->Calls prog 243 #[.pointer (some ⟨b,0,none⟩)] W (Grown (.tuple #[S (gI h.s (qZ h aD once aj).x.c []),S (fM h.s (qZ h aD once aj).x.c [])]) W):=λa W m b k=>OS W b h.s d _ f5.ok k.st;have y:=λW:World=>GC W id hid;have v:=λW:World=>GC W h.index ok.index;have uw:IntKind.u8.wrap (aj:Int)=(aj:Int):=xt _ (by rcases l with e|e<;>omega);have us:IntKind.u8.wrap (h.s:Int)=(h.s:Int):=xt _ (by rcases d with e|e<;>omega);have mw:(aj:Int)%256=(aj:Int):=by rcases l with e|e<;>omega
 have ms:(h.s:Int)%256=(h.s:Int):=by rcases d with e|e<;>omega
 have CB:=λW:World=>uh W aj (UInt8.ofNat aj) (EB l);unfold Cp;by_cases f:(qZ h aD once aj).e=0
 ·rw[av f];have lc:(Co h aD once aj).length=17:=by unfold Co;rw[MS.Jf f4 (MS.Jg f)];rfl
  refine ⟨λt p o e=>?_,1,pm,pm,λw g r=>?_⟩
  ·obtain ⟨rfl,e2⟩:=vB (aH e);obtain ⟨rfl,rfl⟩:=vB e2;exact ⟨by simp only[eI,aK,gE,u,lc],Ao _ _ _,DP _ _ _⟩
  exact Mr w g h.s aj id h.index aD once (cS once eB) h.once h.static _ _ _ (aP h.index 4) (aP id 4) h.x _ _ _ _ _ d r C z I J P R U C5 C6 y v uw us mw ms CB (gE _ _) (gE _ _) u _ (.inr ⟨f,lc,λ_ _ h=>h⟩)
 rw[au f];refine ⟨λt p o e=>(by cases e),(qZ h aD once aj).e,f,f5.e,λw g r=>?_⟩;exact Mr w g h.s aj id h.index aD once (cS once eB) h.once h.static _ _ _ (aP h.index 4) (aP id 4) h.x _ _ _ _ _ d r C z I J P R U C5 C6 y v uw us mw ms CB (gE _ _) (gE _ _) u _ (.inl ⟨f,λ_ _ h=>h⟩)
section
variable(b:Bg)(m:af)
def qh:af:=(m.drop 10).take 32
def um:af:=(m.drop 42).take 17
def Di:MS:=MS.both b.s ⟨b.x,0⟩ (qh m)
def Dj:MS:=(Di b m).bt b.s b.once (qh m)
def Dk:MS:=(Dj b m).bt b.s b.own (qh m)
def zT:MS:=(Dk b m).aD b.s b.aD
def sS:af:=(zT b m).nW b.s (um m)
def nL:MS:=(zT b m).open b.s (um m)
def jl:Nat:=((sS b m).getD 0 0).toNat
def qi:Option (af×af×Nat×Nat):=
 if mT m 59 2≠0then none else if iN m≠b.s then none else if aQ ((m.drop 6).take 4)≠b.id then none else
 if(nL b m).e≠0then none else if jl b m=1\/jl b m=2then some (gI b.s (nL b m).x.c [],fM b.s (nL b m).x.c [],jl b m,aQ ((m.drop 2).take 4))else none
end
section
variable{b:Bg}(ok:xz b)(m:af)
include ok
def MV:(Di b m).dI 0:=MS.dI.both ok.x (fE _) _ 0 _
def MW:(Dj b m).dI 0:=(MV ok m).bt _ _ _
def GS:(Dk b m).dI 0:=(MW ok m).bt _ _ _
def MX:(zT b m).dI 0:=MS.dI.aD (GS ok m).ok (GS ok m).e _ 0 _
def Xp:(nL b m).dI 1:=(MX ok m).open pm _ _
end
def UX (b:Bg)(m:af)(ok:xz b)(hl:m.length<=2000):
 (∀a1 a0 aj cu,qi b m=some (a1,a0,aj,cu)->a1.length=32/\a0.length=32/\(aj=1\/aj=2)/\cu<4294967296/\m.length=59/\((m.getD 1 0).toNat=1\/(m.getD 1 0).toNat=2))/\∃c:Nat,c≠0/\c<=15/\∀(w:World) (g:Nat),ab w g 312 (tZ b)->Calls prog 183 #[ptr g,S m] w (Fi c (qi b m) w):=by
 have C:=λW:World=>GB W m 2 59 hl pm pm;by_cases l:mT m 59 2=0
 rotate_left
 ·have e:qi b m=none:=by unfold qi;rw[av l]
  rw[e];refine ⟨λ_ _ _ _ e=>(by cases e),mT m 59 2,l,Nk _ _ _,λw g f=>?_⟩;exact WA w g b.s b.id m b.own b.peer b.aD b.once b.x (mT m 59 2) l f C
 obtain ⟨p,hk,a3⟩:=Nl l;rw[l]at C;have u:∀W:World,Calls prog 237 #[S m, .int .i64 59, .int .u8 2] W (λe z=>e= .returned (.int .i64 0)/\W=z):=C;have i:=ok.s;by_cases r:iN m=b.s
 rotate_left
 ·have e:qi b m=none:=by unfold qi;rw[au (by simpa using l),av r]
  rw[e];refine ⟨λ_ _ _ _ e=>(by cases e),5,pm,pm,λw g f=>?_⟩;exact WD w g b.s b.id m b.own b.peer b.aD b.once b.x f u p (iN m) rfl r
 by_cases v:aQ ((m.drop 6).take 4)=b.id
 rotate_left
 ·have e:qi b m=none:=by unfold qi;rw[au (by simpa using l),au (by simpa using r),av v]
  rw[e];refine ⟨λ_ _ _ _ e=>(by cases e),5,pm,pm,λw g f=>?_⟩;exact WC w g b.s b.id (aQ ((m.drop 6).take 4)) m b.own b.peer b.aD b.once _ b.x f u p r (λW=>DL W (m.drop 6)) rfl (Ak _) v
 have hN:qi b m=if(nL b m).e≠0then none else if jl b m=1\/jl b m=2then some (gI b.s (nL b m).x.c [],fM b.s (nL b m).x.c [],jl b m,aQ ((m.drop 2).take 4))else none:=by unfold qi;rw[au (by simpa using l),au (by simpa using r),au (by simpa using v)]
 rw[hN];have f1:=MV ok m;have f2:=MW ok m;have f3:=GS ok m;have f4:=MX ok m;have f5:=Xp ok m;have lQ:(qh m).length=32:=by unfold qh;rw[aJ,aR];omega
 have lC:(um m).length=17:=by unfold um;rw[aJ,aR];omega
 have J:∀(d W:World) (k j:Nat),bF d W k j b.s ⟨b.x,0⟩->Calls prog 221 #[.pointer (some ⟨k,0,none⟩),S (qh m)] W (cU d k j b.s (.tuple #[]) (Di b m)):=λd W k j q=>DQ d W k j b.s i _ ok.x _ pm q;have P:∀(d W:World) (k j:Nat),bF d W k j b.s (Di b m)->Calls prog 222 #[.pointer (some ⟨k,0,none⟩),S b.once,S (qh m)] W (cU d k j b.s (.tuple #[]) (Dj b m)):=λd W k j q=>uE d W k j b.s i _ f1.ok _ _ ok.once (λ_=>lQ) q;have R:∀(d W:World) (k j:Nat),bF d W k j b.s (Dj b m)->Calls prog 222 #[.pointer (some ⟨k,0,none⟩),S b.own,S (qh m)] W (cU d k j b.s (.tuple #[]) (Dk b m)):=λd W k j q=>uE d W k j b.s i _ f2.ok _ _ ok.own (λ_=>lQ) q;have U:∀(d W:World) (k j:Nat),bF d W k j b.s (Dk b m)->Calls prog 242 #[.pointer (some ⟨j,0,none⟩),S b.aD] W (cU d k j b.s (.tuple #[]) (zT b m)):=λd W k j q=>(OP W j b.s i _ f3.ok b.aD (by have:=ok.aD;omega) q.st).mono λe z ⟨k1,k2,k3⟩=>⟨k1,q.step k2 k3⟩;have C5:∀(d W:World) (k j:Nat),bF d W k j b.s (zT b m)->Calls prog 238 #[.pointer (some ⟨k,0,none⟩),S (um m)] W (cU d k j b.s (S (sS b m)) (nL b m)):=λd W k j q=>Ix d W k j b.s i _ (xW f4 pm) _ pm q;have C6:∀(d W:World) (k j:Nat),bF d W k j b.s (nL b m)->Calls prog 243 #[.pointer (some ⟨j,0,none⟩)] W (Grown (.tuple #[S (gI b.s (nL b m).x.c []),S (fM b.s (nL b m).x.c [])]) W):=λd W k j q=>OS W j b.s i _ f5.ok q.st
 have I:∀W:World,Calls prog 92 #[S ((m.drop 6).take 4)] W λe z=>e= .returned (.int .u64 b.id)/\W=z:=λW=>by have h:=DL W (m.drop 6);rwa[v]at h
 have ms:(b.s:Int)%256=(b.s:Int):=by rcases i with e|e<;>omega
 have ws:IntKind.i64.wrap (b.s:Int)=(b.s:Int):=dG _ (by rcases i with e|e<;>omega);have ui:IntKind.u32.wrap (b.id:Int)=(b.id:Int):=pN _ (by have:=ok.id;omega);have cs:((UInt8.ofNat b.s).toNat:Int)=(b.s:Int):=by rw[EB i]
 have y:=QO p pm;rw[r]at y;by_cases o:(nL b m).e=0
 ·rw[au (by simpa using o)];have lT:(sS b m).length=1:=by have:=MS.II f4 o;unfold sS;omega
  have hT:sS b m=[UInt8.ofNat (jl b m)]:=by
   unfold jl
   match h:sS b m,lT with
   |[a],_=>simp
  have a2:jl b m<256:=vu _;have mw:(jl b m:Int)%256=(jl b m:Int):=pm
  have ww:IntKind.i64.wrap (jl b m:Int)=(jl b m:Int):=dG _ pm;have wq:wrap64 (jl b m:Int)=(jl b m:Int):=qO _ pm;have cw:((UInt8.ofNat (jl b m)).toNat:Int)=(jl b m:Int):=by rw[UInt8.toNat_ofNat_of_lt' a2]
  by_cases t:jl b m=1\/jl b m=2
  ·rw[av t];refine ⟨λa1 a0 aj cu e=>?_,1,pm,pm,λw g f=>?_⟩
   ·obtain ⟨rfl,e2⟩:=vB (aH e);obtain ⟨rfl,e3⟩:=vB e2;obtain ⟨rfl,rfl⟩:=vB e3;exact ⟨DP _ _ _,Ao _ _ _,t,Ak _,p,a3⟩
   exact GH w g b.s (aQ ((m.drop 2).take 4)) b.id m b.own b.peer b.aD b.once (qh m) (um m) (sS b m) _ _ ((m.drop 6).take 4) ((m.drop 2).take 4) b.x _ _ _ _ _ f u J P R U C5 I ms ws ui cs p rfl rfl rfl y _ (.inr ⟨o,jl b m,hT,mw,ww,wq,cw, .inr ⟨λW=>vQ W _ t,C6,λW=>DL W (m.drop 2),Rb (m.drop 2),rfl,λ_ _ h=>h⟩⟩)
  rw[au t];refine ⟨λ_ _ _ _ e=>(by cases e),5,pm,pm,λw g f=>?_⟩;exact GH w g b.s (aQ ((m.drop 2).take 4)) b.id m b.own b.peer b.aD b.once (qh m) (um m) (sS b m) [] [] ((m.drop 6).take 4) ((m.drop 2).take 4) b.x _ _ _ _ _ f u J P R U C5 I ms ws ui cs p rfl rfl rfl y _ (.inr ⟨o,jl b m,hT,mw,ww,wq,cw, .inl ⟨λW=>Gm W _ (λe=>t (Or.inl e)) (λe=>t (Or.inr e)),λ_ _ h=>h⟩⟩)
 rw[av o];refine ⟨λ_ _ _ _ e=>(by cases e),(nL b m).e,o,f5.e,λw g f=>?_⟩;exact GH w g b.s (aQ ((m.drop 2).take 4)) b.id m b.own b.peer b.aD b.once (qh m) (um m) (sS b m) [] [] ((m.drop 6).take 4) ((m.drop 2).take 4) b.x _ _ _ _ _ f u J P R U C5 I ms ws ui cs p rfl rfl rfl y _ (.inl ⟨o,λ_ _ h=>h⟩)
end
section
open Go.RowKit Top
def T9 {D E:Dm}{m:Nat->Option Int}(g:Good D)(r:jv D m)(g2:Good E)(c:jv E m):Maps.size D=Maps.size E:=by obtain ⟨d,o,p,q,f⟩:=Ii g;obtain ⟨e,t,u,v,i⟩:=Ii g2;have k:=QC g r e (λx a hm=>(i x a).1 (by rw[(c x a).1];exact hm));have l:=QC g2 c d (λx a hm=>(f x a).1 (by rw[(r x a).1];exact hm));omega
open Classical in
noncomputable def vW(m:Nat->Option Int):Bool:=decide (∃D,Good D/\jv D m/\Maps.size D=16)
open Classical in
def XK {m:Nat->Option Int}{D:Dm}(g:Good D)(r:jv D m):Maps.size D=16↔vW m=true:=by
 unfold vW;rw[kr];constructor
 ·intro h;exact ⟨D,g,r,h⟩
 rintro ⟨E,g2,a,h⟩;rw[T9 g r g2 a,h]
noncomputable def ahead(k:Bu)(a:Nat):Nat->Option Int:=later k.2.2 (min ((a:Int)-k.1) 5)
noncomputable def takeN(k:Bu)(c a:Nat):Bool×Bu:=(decide ((taken (ahead k a) c (vW (ahead k a))).1=0),((a:Int),k.2.1+1,(taken (ahead k a) c (vW (ahead k a))).2))
def Fv.only {a b:Nat}{w w'}(h:Fv a b w w'):aC w w' [a,b]:=by obtain ⟨W,c,d⟩:=h;exact ((aC.grown c).mono pu).trans ((aC.grown d).mono (G:=(some b).toList) (H:=[a,b]) pu) (λi e=>Or.inl e)
def abf (m:Nat->Option Int)(x:Nat)(f:Bool):∃c:Nat,c<=15/\(taken m x f).1=(c:Int):=by
 unfold taken
 repeat' split
 all_goals first
  |exact ⟨0,pm,rfl⟩
  |exact ⟨8,pm,rfl⟩
  |exact ⟨9,pm,rfl⟩
  |exact ⟨15,pm,rfl⟩
def Wp (k:Bu)(f d:Nat)(u:f<4294967296)(v:d<=1099511627776)(h0:0<=k.1)(h1:k.1<=(d:Int))(t:k.2.1<1000000000):
 (takeN k f d).2.1=(d:Int)/\(takeN k f d).2.2.1=k.2.1+1/\∃c:Nat,c<=15/\((takeN k f d).1=true↔c=0)/\∀(w:World) (a b:Nat),lV w a b k.1 k.2.1 k.2.2->Calls prog 176 #[ptr a, .int .u32 f, .int .i64 d] w (Fs a b c (takeN k f d).2 w):=by
 refine ⟨rfl,rfl,?_⟩;obtain ⟨c,l,i⟩:=abf (ahead k d) f (vW (ahead k d));refine ⟨c,l,?_,λw a b q=>?_⟩
 ·show decide _=true↔_;rw[kr,i];omega
 have h:=Wo w a b k.1 (d:Int) k.2.1 k.2.2 f u (vW (ahead k d)) q t h0 h1 pm (λ_ D g r=>XK g r);refine h.mono ?_;rintro e y ⟨rfl,o,p⟩;refine ⟨?_,o,p.only⟩;show Ending.returned (.int .i64 (taken (ahead k d) f (vW (ahead k d))).1)=_;rw[i]
noncomputable def C0:Cr Bg Hd Bu where
 key:=fg
 vT:=λbt f e=>fx bt (oR f e) 16
 mark:=mq
 check:=qc
 fJ:=λd n c s=>if s.length<38then none else some (wC d n c s)
 accept:=vL
 begun:=Cs
 oZ:=vY
 answer:=Cp
 finish:=qi
 shut:=λa key n t=>some (jS a key n [] t)
 opened:=λa key n s=>mv a key n [] s
 yM:=tA
 wS:=kM
 take:=takeN
 gA:=aV
 dW:=λl=>aQ (l.take 8)
 aP:=Go.Proofs.YtmomfbkpniblgaaGreatDoor.aP
 me:=bo
def U3 (a n c s:af)(e:n.length=24)(d:c.length=16)(f:6<=s.length):(wC a n c s).length=62:=by unfold wC;rw[aK,aK,NK _ f,Mp,e,d]
def Fh:bD C0 where
 key:=λ_ _=>rfl
 mark:=λ_ _ _=>rfl
 vT:=λ_ _ _=>rfl
 shut:=λ_ _ _ _=>rfl
 opened:=λ_ _ _ _=>rfl
 yM:=λ_ _ _=>rfl
 wS:=λ_ _ _=>rfl
 aP:=λ_ _=>rfl
 me:=λ_ _=>rfl
 gA:=λ_=>rfl
 dW:=λl q=>by
  have e:l.take 8=l:=cE q;refine ⟨?_,λw=>?_⟩
  ·show aQ (l.take 8)<_;rw[e,Nat.pow_mul];exact wh l
  exact qG w l pm
 check:=λa c s d f i=>by
  refine ⟨λt b e=>TE e,ue s,by unfold ue;split<;>omega,by unfold ue;split<;>omega,λw=>?_⟩;have h:=Ub w a c s d f i;show Calls prog 174 _ w (vE _ (qc a c s) w);cases e:qc a c s with
  |none=>rw[e]at h;exact h
  |some r=>obtain ⟨t,b⟩:=r;rw[e]at h;exact h
 fJ:=λa g c s d o f i=>by
  show(∀t,(if s.length<38then none else some (wC a g c s))=some t->_)/\∃k:Nat,k≠0/\k<=15/\∀w:World,Calls prog 175 _ w (tX k (if s.length<38then none else some (wC a g c s)) w);by_cases h:s.length<38
  ·rw[av h];exact ⟨λt e=>(by cases e),4,pm,pm,λw=>Uf w a g c s d o f h⟩
  rw[au h];refine ⟨λt e=>?_,1,pm,pm,λw=>Ue w a g c s d o f pm pm⟩;obtain rfl:=aH e;exact U3 a g c s o f pm
 accept:=λa m s d hm i=>by
  obtain ⟨c,c0,p,h⟩:=TM a m s d hm i;refine ⟨λt e=>RU e,c,c0,p,λw=>?_⟩;have h:=h w;show Calls prog 185 _ w (tX _ (vL a m s) w);cases e:vL a m s with
  |none=>rw[e]at h;exact h
  |some t=>rw[e]at h;exact h
 begun:=TZ
 oZ:=Vc
 answer:=TW
 finish:=UX
 take:=Wp
end
end Go.Proofs.YtmomfbkpniblgaaGreatDoor
