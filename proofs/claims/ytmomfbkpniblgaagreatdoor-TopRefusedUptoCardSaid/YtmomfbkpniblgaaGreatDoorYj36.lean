/- A part of this claim's proof. -/
import Derived.Test.YtmomfbkpniblgaaGreatDoorYj33
import Derived.BigRegion
import Derived.Deep.DeepCutAuto
import Derived.Deep.Cut
set_option linter.all false
set_option maxHeartbeats 32000000
set_option maxRecDepth 20000
namespace Go.Proofs.YtmomfbkpniblgaaGreatDoor
open Go.Proofs.Tryz
variable {fA:Bool}{x y:World}
section
open Go.RowKit Top
def cZ.tx {w w'}{A:DA}{d:Dv Bu}(h:cZ w A d){k:Bu}(a:lV w' A.bk A.mp k.1 k.2.1 k.2.2)(g:aC w w' [A.bk,A.mp]):gf w A w' A {d with bk:=k}:=by
 obtain ⟨D,e,⟨n,m,hm,_⟩,o,p⟩:=h.bk;have j:cD w A.bk=some 184:=by unfold cD;rw[e]
 have l:cD w A.mp=none:=by unfold cD;rw[hm]
 have f:∀(b:Nat) (t:TypeId),cD w b=some t->t≠184->b∉[A.bk,A.mp]:=λb t c e hm=>by
  simp only[bp,dD,dH]at hm;rcases hm with rfl|rfl
  ·rw[j]at c;exact e (aH c).symm
  rw[l]at c;cases c
 refine ⟨⟨g.bu h.dv (f _ _ h.dv.kind ut),h.out.only g (λb a=>f b _ (h.out.kind b a).1 ut),h.aE.only g (λb a=>f b _ (h.aE.kind b a).1 ut),h.tb.imp λO i=>⟨i.1.only g ?_,i.2⟩,a⟩,g.mono (λb a=>?_),rfl,rfl,rfl,rfl,rfl,λb a=>Or.inl a⟩
 ·simp only[bp,dD,dH]at a;simp only[DA.fp,bG,bp,dD,dH];rcases a with rfl|rfl
  ·exact Or.inl (Or.inl (Or.inr (Or.inl rfl)))
  exact Or.inl (Or.inl (Or.inr (Or.inr rfl)))
 intro b a;exact jM.tp (by
  simp only[bp,dD,dH]at a;rcases a with rfl|rfl
  ·rw[j];simp[jM]
  rw[l];simp[jM])
def St.MU {x0}{f A:DA}{j P:PA}{d:Dv Bu}{p:Pe Bg}(h:St x0 f j x A P d p){k:Nat}(g:aC x y [k]){t:TypeId}(c:cD x k=some t)(o:t=246)(h0:x0.heap.size<=k):St x0 f j y A P d p:=by
 subst o;have m:∀b∈A.fp,b∉[k]:=λb a hm=>by simp at hm;subst hm;have:=(h.dv.kinds b a).1;rw[c]at this;rcases this with e|e|e|e|e<;>revert e<;>decide
 have n:∀b∈P.fp,b∉[k]:=λb a hm=>by simp at hm;subst hm;have:=(h.pe.kinds b a).1;rw[c]at this;rcases this with e|e|e|e|e|e|e<;>revert e<;>decide
 exact ⟨h.dv.only g m (λb a=>by
  simp at a;subst a;exact mr λt e=>by rw[c]at e;obtain rfl:=aH e;decide),h.pe.only g n,h.e1,h.e2,h.e3,h.e4,h.e5,h.e6,h.e7,h.only.trans g (λi l=>by simp at l;subst l;exact Or.inr h0),h.fa,h.fp⟩
def vJ(e:World)(A:DA)(P:PA)(a:Dv Bu)(d:Pe Bg)(B:Nat)(ks:Lv)(b c:Bool)(m:Option Value)(z:World):Prop:=
 St e A P z A P (cond b a.fu a) d/\∀v,m=some v->∃g,v= .pointer (some ⟨g,0,none⟩)/\B<=g/\ab z g 246 (if c then ks else [.string ⟨#[]⟩, .string ⟨#[]⟩])
def vJ.new {x21}{A:DA}{P:PA}{d:Dv Bu}{f:Pe Bg}{B:Nat}{ks}{b c:Bool}{m:Option Value}(h:vJ x21 A P d f B ks b c m x)(g:x.grownBy y none):vJ x21 A P d f B ks b c m y:=
 ⟨h.1.new g,λv e=>(h.2 v e).imp λk a=>⟨a.1,a.2.1,a.2.2.kept g pu⟩⟩
def Zx (a b c e:Nat):Ai (a:Int) (b:Int) (c:Int) (e:Int)=qs a b c e:=by
 unfold Ai qs;have d:decide ((c:Int)<(a:Int))=decide (c<a):=by rw[BM];omega
 have f:decide ((a:Int)=(c:Int))=decide (a=c):=by rw[BM];omega
 have g:decide ((e:Int)<(b:Int))=decide (e<b):=by rw[BM];omega
 rw[d,f,g]
def Xy (C:Cr Bg Hd Bu)(d:De Bg Bu)(a:Nat)(s:af)(b:C.check d.dv.ag (ey C d.dv a) s=none):d.first C a s=d:=by unfold De.first;rw[b]
def Xv (C:Cr Bg Hd Bu)(d:De Bg Bu)(a:Nat)(s:af){t:af}(c:C.check d.dv.ag (ey C d.dv a) s=some (t,fA))(b:d.dv.busy=true)(e:fA=false):
 d.first C a s={d with dv:=(match C.fJ d.dv.ag ((C.key d.dv.an d.dv.fresh).take 24) (ey C d.dv a) s with|none=>d.dv.fu|some r=>d.dv.fu.dt a r)}:=by
 unfold De.first;rw[c];dsimp only;rw[b,e];rfl
def bX.low {A:DA}{c:List PA}{d:De Bg Bu}(h:bX x A c d):∀b∈eA A c,b<x.heap.size:=λb a=>by
 rcases bG.1 a with a|a
 ·exact (h.dv.kinds b a).2
 obtain ⟨P,f,g⟩:=mE.1 a;obtain ⟨i,e⟩:=nw f;obtain ⟨p,j⟩:=h.IQ e;exact ((h.pe i P p e j).kinds b g).2
def Xu (C:Cr Bg Hd Bu)(d a:De Bg Bu)(b:Nat)(s:af){c:jh}{e:Hd}(h:d.first C b s=(match known a.aI c.static with|none=>a|some n=>a.at n λv p=>iz C v p b c e)){i:Nat}(f:known a.aI c.static=some i){p:Pe Bg}(g:a.aI[i]?=some p):
 d.first C b s=⟨(iz C a.dv p b c e).1,a.aI.set i (iz C a.dv p b c e).2⟩:=by
 rw[h,f];dsimp only;unfold De.at;rw[g]
def Ha (C:Cr Bg Hd Bu)(d:Dv Bu)(p:Pe Bg)(b:Nat)(t:jh)(h:Hd)(a:rG d p t=true):iz C d p b t h=(d,p):=by unfold iz;rw[av a]
def R8 {d:Dv Bu}{p:Pe Bg}{t:jh}(h:d.aj<t.ae):rG d p t=true:=by unfold rG;simp[h]
def R9 {d:Dv Bu}{p:Pe Bg}{t:jh}(h:(p.stamped&& !qs t.sec t.nano p.sec p.nano)=true):rG d p t=true:=by unfold rG;rw[h];simp
def S7 {d:Dv Bu}{p:Pe Bg}{t:jh}(h:t.ae<p.br):rG d p t=true:=by unfold rG;simp[h]
def R7 {d:Dv Bu}{p:Pe Bg}{t:jh}(h1:¬d.aj<t.ae)(a:(p.stamped&& !qs t.sec t.nano p.sec p.nano)=false)(b:¬t.ae<p.br):rG d p t=false:=by unfold rG;rw[a];simp[h1,b]
def asked(C:Cr Bg Hd Bu)(d:De Bg Bu)(a:Nat):De Bg Bu:={d with dv:={d.dv with bk:=(C.take d.dv.bk a d.dv.now).2}}
def Nb (C:Cr Bg Hd Bu)(d:De Bg Bu)(a:Nat)(s:af){t:af}(e:C.check d.dv.ag (ey C d.dv a) s=some (t,fA))(c:(d.dv.busy&& !fA)=false):
 d.first C a s=(if(C.take d.dv.bk a d.dv.now).1then(match C.oZ d.dv.own t with
  |none=>asked C d a
  |some (b,h)=>match known d.aI b.static with
   |none=>asked C d a
   |some n=>(asked C d a).at n λv p=>iz C v p a b h)else asked C d a):=by
 unfold De.first;rw[e];dsimp only;rw[c];simp only[tG,oE];cases (C.take d.dv.bk a d.dv.now).1with
 |false=>rfl
 |true=>
  simp only[sf];cases C.oZ d.dv.own t with
  |none=>rfl
  |some r=>
   obtain ⟨b,h⟩:=r;dsimp only;cases known d.aI b.static with
   |none=>rfl
   |some n=>rfl
def Uv (C:Cr Bg Hd Bu)(i:bD C) x (A:DA)(g:List PA)(d:De Bg Bu)(h:bX x A g d)(K:Nat)(ok:dw K d)(a:Nat)(w:a<4294967296)(s:af)(v:s.length<=2000)(j:C.check d.dv.ag (ey C d.dv a) s=none):
 Calls prog 122 #[ptr A.dev, .int .u32 a,S s] x (im x A g (d.first C a s)):=by
 obtain ⟨u,z,P,R,c⟩:=i.check d.dv.ag (ey C d.dv a) s ok.dv.ag (qd C i _ _) v;have AC:Hid (∀W:World,cZ W A d.dv->Calls prog 173 #[.pointer (some ⟨A.dev,0,none⟩), .int .u32 a] W (Grown (.string ⟨(ey C d.dv a).toArray⟩) W)):=Hq λW t=>CM C i W A d.dv t ok.dv.bt ok.dv.now a w;have q:=Hq (Xy C d a s j);rw[j]at c;obtain ⟨I,l⟩:=kq (ey C d.dv a);rw[<-l]at c AC;have k:=Hq h;have n:=Hq c;have e:=AC.out x h.dv;have J:((z:Int) !=0)=true:=by rw[dY];omega
 clear h u c l j;unfold ptr S im;unfold Grown at e;go_enter func122,ntmps122;go_wp2_with fail;refine ax e λm b=>?_;have o:=Hq b;have r:m.cell? ⟨A.dev,2,none⟩=some (.string ⟨d.dv.ag.toArray⟩):=ab.cell (k.out.new b).dv.dv 2;have f:=n.out m;unfold vE Grown S at f;clear b e;go_wp2_with fail;refine ax f λU b=>?_;have p:=Hq (ai o.out b);clear b f r;go_wp2;go_ret;rw[q.out];exact ⟨⟨_,rfl⟩,A,g,aY.new k.out p.out⟩
def Uu (C:Cr Bg Hd Bu)(P:bD C) x (A:DA)(o:List PA)(d:De Bg Bu)(h:bX x A o d)(K:Nat)(ok:dw K d)(hK:K+3<=100000000)(n:Nat)(b9:n<4294967296)(s:af)(hs:s.length<=2000)(t:af)(a':d.dv.busy=true)(a5:C.check d.dv.ag (ey C d.dv n) s=some (t,false)):
 Calls prog 122 #[ptr A.dev, .int .u32 n,S s] x (im x A o (d.first C n s)):=by
 obtain ⟨b8,kc,b',c0,a1⟩:=P.check d.dv.ag (ey C d.dv n) s ok.dv.ag (qd C P _ _) hs;have a9:=Hq (qd C P d.dv n);have AC:Hid (∀W:World,cZ W A d.dv->Calls prog 173 #[.pointer (some ⟨A.dev,0,none⟩), .int .u32 n] W (Grown (.string ⟨(ey C d.dv n).toArray⟩) W)):=Hq λW hW=>CM C P W A d.dv hW ok.dv.bt ok.dv.now n b9;have b3:=Hq a5;rw[a5]at a1;obtain ⟨fy,a6⟩:=kq (ey C d.dv n);have b5:=Hq a6;rw[<-a6]at a1 AC a9;have HD:=Hq h;have J:=ok.dv;have b0:=Hq a1;have B1:=AC.out x h.dv;clear h b8 a1 a6 a5;unfold ptr S im;unfold Grown at B1;go_enter func122,ntmps122;go_wp2_with fail;refine ax B1 λy1 b=>?_;have b4:=Hq b;have c2:y1.cell? ⟨A.dev,2,none⟩=some (.string ⟨d.dv.ag.toArray⟩):=ab.cell (HD.out.new b).dv.dv 2;have B2:=b0.out y1;unfold vE Grown S at B2;clear b B1;go_wp2_with fail;refine ax B2 λy2 b=>?_;have a2:=Hq (ai b4.out b);have b7:y2.cell? ⟨A.dev,10,none⟩=some (.bool d.dv.busy):=ab.cell (HD.out.new a2.out).dv.dv 10;rw[a']at b7;clear b B2 c2;obtain ⟨_,rc,c1,c3,R⟩:=P.fJ d.dv.ag ((fg d.dv.an d.dv.fresh).take 24) fy s ok.dv.ag (by rw[aJ,nU];rfl) a9.out hs
 have a0:Hid (d.first C n s={d with dv:=(match C.fJ d.dv.ag ((fg d.dv.an d.dv.fresh).take 24) fy s with|none=>d.dv.fu|some r=>d.dv.fu.dt n r)}):=Hq (by rw[Xv C d n s b3.out a' rfl,<-P.key,b5.out]);cases c:C.fJ d.dv.ag ((fg d.dv.an d.dv.fresh).take 24) fy s with
 |none=>
  have a3:Hid (d.first C n s={d with dv:=d.dv.fu}):=Hq (by rw[a0.out,c]);rw[c]at R;have a4:=Hq R;clear R c a0;go_wp2_with fail;have a7:eF 15 5 1002 (λx y=>aC x y A.fp) (λf j z=>aY x A o z A o ⟨cond f d.dv.fu d.dv,d.aI⟩) []:=⟨λx y g=>aC.new g _,λx y z g k=>g.trans k (λi hi=>Or.inl hi),λ_ _ _ _ h g=>h.trans (aY.new h.de g),True.intro,λ_=>True.intro,λe=>absurd e ut,qr⟩;apply gT a7 qr qr (aY.new HD.out a2.out);intro u0;iterate 3 (apply aX;rfl;(intro f j a p l q u m b c;go_simp;exact aq);simp only[aA])
  apply aX;rfl
  ·intro f j a p l q u m b c;have z0:a.cell? ⟨A.dev,2,none⟩=some (.string ⟨d.dv.ag.toArray⟩):=by have e:=ab.cell c.de.dv.dv 2;cases f<;>exact e
   go_simp
   exact aq
  simp only[aA];apply aX;rfl;·(intro f j a p l q u m b c;go_simp;exact aq)
  simp only[aA];apply pn a7 qr
  ·intro f j a p l q u m b c;obtain rfl:=l (Or.inl rfl);have w:aY x A o a A o ⟨d.dv,d.aI⟩:=c;have B:=xQ a A d.dv w.de.dv (by have:=J.fresh;omega) (by have:=J.an;omega);unfold S ptr at B
   go_simp
   refine ax B λy v=>?_;exact gw v.only (w.trans (aY.device w.de v))
  simp only[aA];apply aX;rfl
  ·intro f j a p l q u m b c;have e9:(ByteArray.mk (fg d.dv.an d.dv.fresh).toArray).extract 0 24=⟨((fg d.dv.an d.dv.fresh).take 24).toArray⟩:=(by rw[dP,oA]);have e8:(ByteArray.mk (fg d.dv.an d.dv.fresh).toArray).size=32:=nU _ _;have e7:(fg d.dv.an d.dv.fresh).length=32:=nU _ _
   go_simp
   exact aq
  simp only[aA];iterate 2 (apply aX;rfl;(intro f j a p l q u m b c;go_simp;exact aq);simp only[aA])
  apply aX;rfl
  ·intro f j a p l q u m b c;have B:=a4.out a;unfold tX Grown S at B
   go_simp
   refine ax B λy hy=>?_;exact gv hy
  simp only[aA];iterate 5 (apply aX;rfl;(intro f j a p l q u m b c;go_simp;exact aq);simp only[aA])
  refine pz ?_;intro a b U m;have hT:aY x A o a A o ⟨d.dv.fu,d.aI⟩:=U;have I:=Hq hT;clear hT U b;have hk:((rc:Int)==0)=false:=by rw[dC];omega
  go_wp2;go_ret;rw[a3.out];exact ⟨⟨_,rfl⟩,A,o,I.out⟩
 |some rp=>
  have a3:Hid (d.first C n s={d with dv:=d.dv.fu.dt n rp}):=Hq (by rw[a0.out,c]);rw[c]at R;have a4:=Hq R;clear R c a0;go_wp2_with fail;have a8:eF 15 5 1002 (λx y=>aC x y A.fp) (λf j z=>aY x A o z A o ⟨cond f d.dv.fu d.dv,d.aI⟩) []:=⟨λx y g=>aC.new g _,λx y z g k=>g.trans k (λi hi=>Or.inl hi),λ_ _ _ _ h g=>h.trans (aY.new h.de g),True.intro,λ_=>True.intro,λe=>absurd e ut,qr⟩;apply gT a8 qr qr (aY.new HD.out a2.out);intro u0;iterate 3 (apply aX;rfl;(intro f j a p l q u m b c;go_simp;exact aq);simp only[aA])
  apply aX;rfl
  ·intro f j a p l q u m b c;have z0:a.cell? ⟨A.dev,2,none⟩=some (.string ⟨d.dv.ag.toArray⟩):=by have e:=ab.cell c.de.dv.dv 2;cases f<;>exact e
   go_simp
   exact aq
  simp only[aA];apply aX;rfl;·(intro f j a p l q u m b c;go_simp;exact aq)
  simp only[aA];apply pn a8 qr
  ·intro f j a p l q u m b c;obtain rfl:=l (Or.inl rfl);have w:aY x A o a A o ⟨d.dv,d.aI⟩:=c;have B:=xQ a A d.dv w.de.dv (by have:=J.fresh;omega) (by have:=J.an;omega);unfold S ptr at B
   go_simp
   refine ax B λy v=>?_;exact gw v.only (w.trans (aY.device w.de v))
  simp only[aA];apply aX;rfl
  ·intro f j a p l q u m b c;have e9:(ByteArray.mk (fg d.dv.an d.dv.fresh).toArray).extract 0 24=⟨((fg d.dv.an d.dv.fresh).take 24).toArray⟩:=(by rw[dP,oA]);have e8:(ByteArray.mk (fg d.dv.an d.dv.fresh).toArray).size=32:=nU _ _;have e7:(fg d.dv.an d.dv.fresh).length=32:=nU _ _
   go_simp
   exact aq
  simp only[aA];iterate 2 (apply aX;rfl;(intro f j a p l q u m b c;go_simp;exact aq);simp only[aA])
  apply aX;rfl
  ·intro f j a p l q u m b c;have B:=a4.out a;unfold tX Grown S at B
   go_simp
   refine ax B λy hy=>?_;exact gv hy
  simp only[aA];iterate 5 (apply aX;rfl;(intro f j a p l q u m b c;go_simp;exact aq);simp only[aA])
  refine pz ?_;intro a b U m;have hT:aY x A o a A o ⟨d.dv.fu,d.aI⟩:=U;have I:=Hq hT;clear hT U b;have B:=CQ a A d.dv.fu I.out.de.dv n rp (by have:=J.out;have:=J.K;show d.dv.out.length<=_;omega);unfold ptr S at B;go_wp2_with fail;refine B.mono ?_;rintro e y7 ⟨rfl,A2,v⟩;have b6:=Hq (I.out.trans (aY.device I.out.de v));clear v B I;go_wp2;go_ret;rw[a3.out];exact ⟨⟨_,rfl⟩,A2,o,b6.out⟩
def Uw (C:Cr Bg Hd Bu)(hC:bD C) x (A:DA)(Ps:List PA)(d:De Bg Bu)(h:bX x A Ps d)(K:Nat)(ok:dw K d)(hK:K+3<=100000000)(w:Nat)(g3:w<4294967296)(s:af)(hs:s.length<=2000)(t:af)(fA:Bool)(f7:(d.dv.busy&& !fA)=false)(f8:C.check d.dv.ag (ey C d.dv w) s=some (t,fA)):
 Calls prog 122 #[ptr A.dev, .int .u32 w,S s] x (im x A Ps (d.first C w s)):=by
 obtain ⟨m7,kc,r5,r6,f9⟩:=hC.check d.dv.ag (ey C d.dv w) s ok.dv.ag (qd C hC _ _) hs;have r4:=m7 t fA f8;have k':=Hq (qd C hC d.dv w);have AC:Hid (∀W:World,cZ W A d.dv->Calls prog 173 #[.pointer (some ⟨A.dev,0,none⟩), .int .u32 w] W (Grown (.string ⟨(ey C d.dv w).toArray⟩) W)):=Hq λW hW=>CM C hC W A d.dv hW ok.dv.bt ok.dv.now w g3;have h4:=Hq f8;rw[f8]at f9;obtain ⟨fy,i'⟩:=kq (ey C d.dv w);have o2:=Hq i';rw[<-i']at f9 AC k';have HD:=Hq h;have dk:=ok.dv;have j7:=Hq f9;have B1:=AC.out x h.dv;obtain ⟨_,_,tc,r7,g4,n6⟩:=hC.take d.dv.bk w d.dv.now g3 dk.now dk.jw.1 dk.jw.2 (by have:=dk.bk;have:=dk.K;omega);have l4:=Hq n6;clear h m7 f9 i' f8 n6;unfold ptr S im;unfold Grown at B1;go_enter func122,ntmps122;go_wp2_with fail;refine ax B1 λy1 f=>?_;have j9:=Hq f;have c2:y1.cell? ⟨A.dev,2,none⟩=some (.string ⟨d.dv.ag.toArray⟩):=ab.cell (HD.out.new f).dv.dv 2;have B2:=j7.out y1;unfold vE Grown S at B2;clear f B1;go_wp2_with fail;refine ax B2 λy2 f=>?_;have e1:=Hq (ai j9.out f);have c3:y2.cell? ⟨A.dev,10,none⟩=some (.bool d.dv.busy):=ab.cell (HD.out.new e1.out).dv.dv 10;clear f B2 c2;go_upto_region 5with(fail);go_cut [44] (λv wx=>v= .bool false/\wx=y2)
 case first=>
  cases hbz:d.dv.busy with
  |false=>rw[hbz]at c3;clear hbz;go_wp2;go_meet;exact ⟨rfl,rfl⟩
  |true=>
   have p2:fA=true:=by rw[hbz]at f7;cases fA<;>first|rfl|cases f7
   subst p2;rw[hbz]at c3;clear hbz;go_wp2;go_meet;exact ⟨rfl,rfl⟩
 case rest=>
  obtain ⟨rfl,rfl⟩:=hcut;clear c3;go_wp2_with fail;refine fe 9 qr qr ?_;iterate 9 (apply rn;(intro n' f;first|(go_simp;exact aq)|(have g8:=ab.cell (HD.out.new (ai e1.out f)).dv.dv;go_simp;exact aq));simp only[aA])
  refine rz ?_;intro n' f;have I:=HD.out.new (ai e1.out f);have B:=l4.out n' A.bk A.mp I.dv.bk;unfold Fs ptr at B;have f4:=Hq (ai e1.out f);clear I f;go_wp2_with fail;refine B.mono ?_;rintro e y3 ⟨rfl,m4,n5⟩;have HT:Hid (aY x A Ps y3 A Ps (asked C d w)):=Hq ((aY.new HD.out f4.out).trans (aY.device (HD.out.new f4.out) (cZ.tx (HD.out.new f4.out).dv m4 n5)));clear B m4 n5 l4 f4;by_cases j2:tc=0
  ·subst j2;have n7:=g4.2 rfl;have c':=Hq (Nb C d w s h4.out f7);rw[n7]at c';clear n7 g4;obtain ⟨o,e8⟩:=kq (asked C d w);rw[<-e8]at HT c';have m9:o.aI=d.aI:=(by rw[e8];rfl);have m':o.dv.own=d.dv.own:=(by rw[e8];rfl);have b0:dw (K+1) o:=by rw[e8];exact ⟨ok.dv.tx C hC pm g3,ok.pe,ok.many⟩
   rw[<-m9,<-m']at c';clear e8 m9 m' ok dk HD j9 e1 AC j7 h4 o2 k';obtain ⟨i7,hc,r0,r1,e0⟩:=hC.oZ o.dv.own t b0.dv.own pm;have c1:y3.cell? ⟨A.dev,1,none⟩=some (.string ⟨o.dv.own.toArray⟩):=ab.cell HT.out.de.dv.dv 1;cases u:C.oZ o.dv.own t with
   |none=>have a9:Hid (d.first C w s=o):=Hq (by rw[c'.out,u];rfl);rw[u]at e0;have B:=e0 y3;unfold Cf Grown S at B;clear u i7 e0 c';go_wp2_with fail;refine ax B λy4 d'=>?_;have b5:=Hq d';have m6:((hc:Int) !=0)=true:=(by rw[dY];omega);clear B d';go_wp2;go_ret;rw[a9.out];exact ⟨⟨_,rfl⟩,A,Ps,HT.out.trans (aY.new HT.out.de (by repeat(first|exact b5.out|apply aM|apply cj _ _ pu|apply aF)))⟩
   |some r=>
    obtain ⟨l,hd⟩:=r;obtain ⟨p7,t1,t2,t3,t4,t5⟩:=i7 l hd u;rw[u]at e0;have B:=e0 y3;unfold Cf JK S ptr at B;have f5:Hid (d.first C w s=(match known o.aI l.static with|none=>o|some n=>o.at n λv p=>iz C v p w l hd)):=Hq (by rw[c'.out,u];rfl);clear u i7 e0 c';go_wp2_with fail;refine B.mono ?_;rintro e y4 ⟨gh,rfl,m2,d',o'⟩;go_wp2_with fail;obtain ⟨y5,g7⟩:=kq (y4.alloc (.cells #[.int .i64 l.ae, .int .u32 l.index, .string ⟨l.static.toArray⟩, .int .i64 l.sec, .int .i64 l.nano, .int .i64 l.aj] 260));rw[<-g7];have m5:ab y5 y4.heap.size 260 [.int .i64 l.ae, .int .u32 l.index, .string ⟨l.static.toArray⟩, .int .i64 l.sec, .int .i64 l.nano, .int .i64 l.aj]:=by rw[g7];exact ab.new y4 _ _
    have i5:y4.grownBy y5 none:=by rw[g7];exact aT y4 _ none
    have m3:=m2.kept i5 pu;have b5:=Hq (ai d' i5);have b6:=Hq m5;have j':Hid (ab y5 gh 323 (uv hd)):=Hq m3;have i6:y3.heap.size<=y4.heap.size:=d'.size;have n2:y3.heap.size<=gh:=o';obtain ⟨gt,n3⟩:=kq y4.heap.size;rw[<-n3]at b6 i6⊢;have H5:=Hq (HT.out.de.new b5.out);have BK:=LF y5 A Ps o H5.out b0.many l.static;have n1:∀b∈eA A Ps,b<y3.heap.size:=HT.out.de.low;have k9:=Hq n1;clear g7 m5 i5 m3 n3 m2 d' B n1;cases hk:known o.aI l.static with
    |none=>
     have a9:Hid (d.first C w s=o):=Hq (by rw[f5.out,hk]);rw[hk,yo]at BK;unfold ptr S at BK;clear hk f5;go_wp2_with fail;refine BK.mono ?_;rintro e yk ⟨rfl,rfl⟩;clear BK;go_wp2_with fail;refine fe 8 qr qr ?_;iterate 6 (apply rn;(intro a8 f;first|(go_simp;exact aq)|(have d4:=ab.cell (b6.out.kept f pu);have g8:=ab.cell (H5.out.new f).dv.dv;go_simp;exact aq));simp only[aA])
     apply rn
     ·intro a8 f
      go_simp
      exact aq
     simp only[aA];apply rn;·(intro a8 f;first|(go_simp;exact aq)|(have d4:=ab.cell (b6.out.kept f pu);have g8:=ab.cell (H5.out.new f).dv.dv;go_simp;exact aq))
     simp only[aA];refine rz ?_;intro a8 f;by_cases c4:o.dv.aj<l.ae
     ·have e':decide (o.dv.aj<l.ae)=true:=by simpa using c4
      have a':=Hq f;clear f;go_wp2;go_ret;rw[a9.out];exact ⟨⟨_,rfl⟩,A,Ps,HT.out.trans (aY.new HT.out.de (ai b5.out a'.out))⟩
     have e':decide (o.dv.aj<l.ae)=false:=by simpa using c4
     have a':=Hq f;clear f;go_wp2;go_ret;rw[a9.out];exact ⟨⟨_,rfl⟩,A,Ps,HT.out.trans (aY.new HT.out.de (ai b5.out a'.out))⟩
    |some i=>
     obtain ⟨p,hp,p1⟩:=IP hk;obtain ⟨P,hP⟩:=H5.out.mN hp;have n9:=b0.pe p (dc hp);have a9:=Hq (Xu C d o w s f5.out hk hp);rw[hk,yp hP]at BK;unfold ptr S at BK;have HP:=Hq hP;have Hp:=Hq hp;have H6:Hid (St y5 A P y5 A P o.dv p):=Hq (H5.out.start hP hp);clear hk f5 hP hp p1;go_wp2_with fail;refine BK.mono ?_;rintro e yk ⟨rfl,rfl⟩;clear BK;go_wp2_with fail;refine fe 8 qr qr ?_;iterate 6 (apply rn;(intro a8 f;first|(go_simp;exact aq)|(have d4:=ab.cell (b6.out.kept f pu);have g8:=ab.cell (H5.out.new f).dv.dv;go_simp;exact aq));simp only[aA])
     apply rn
     ·intro a8 f
      go_simp
      exact aq
     simp only[aA];apply rn;·(intro a8 f;first|(go_simp;exact aq)|(have d4:=ab.cell (b6.out.kept f pu);have g8:=ab.cell (H5.out.new f).dv.dv;go_simp;exact aq))
     simp only[aA];refine rz ?_;intro a8 f;by_cases c4:o.dv.aj<l.ae
     ·have e':decide (o.dv.aj<l.ae)=true:=by simpa using c4
      have e2:=Hq (Ha C o.dv p w l hd (R8 c4));have a':=Hq f;clear f;go_wp2;go_ret;rw[a9.out,e2.out];have e:(⟨o.dv,o.aI.set i p⟩:De Bg Bu)=o:=(by rw[AV Hp.out]);rw[e];exact ⟨⟨_,rfl⟩,A,Ps,HT.out.trans (aY.new HT.out.de (ai b5.out a'.out))⟩
     have e':decide (o.dv.aj<l.ae)=false:=by simpa using c4
     go_wp2_with fail;simp only[e'];have g5:=H6.out.new f;have SB:∀W:World,a8.grownBy W none->W.cell? ⟨P.pe,8,none⟩=some (.bool p.stamped)/\W.cell? ⟨P.pe,9,none⟩=some (.int .i64 p.sec)/\W.cell? ⟨P.pe,10,none⟩=some (.int .i64 p.nano)/\W.cell? ⟨gt,3,none⟩=some (.int .i64 l.sec)/\W.cell? ⟨gt,4,none⟩=some (.int .i64 l.nano):=λW g=>⟨ab.cell (g5.new g).pe.pe 8,ab.cell (g5.new g).pe.pe 9,ab.cell (g5.new g).pe.pe 10,ab.cell ((b6.out.kept f pu).kept g pu) 3,ab.cell ((b6.out.kept f pu).kept g pu) 4⟩
     have a':=Hq f;clear g5 f e';go_upto_region 21with(fail);go_cut [105] (λv wx=>v= .bool (p.stamped&& !qs l.sec l.nano p.sec p.nano)/\a8.grownBy wx none)
     case first=>
      cases hst:p.stamped with
      |false=>
       obtain ⟨c8,c9,c3,k3,k4⟩:=SB a8 (ak _ _);rw[hst]at c8;have h8:Hid ((p.stamped&& !qs l.sec l.nano p.sec p.nano)=false):=Hq (by rw[hst];rfl);clear hst;apply yQ (λz=>a8.grownBy z none)
       case h=>
        go_quiet (fail)
        exact ⟨rfl,rfl,iT (ak _ _) _⟩
       case k=>intro a6 b7;go_wp2;go_meet;exact ⟨by rw[h8.out],b7⟩
      |true=>
       have AF:=λW:World=>aaK W (l.sec:Int) (l.nano:Int) (p.sec:Int) (p.nano:Int);rw[Zx]at AF;obtain ⟨c8,c9,c3,k3,k4⟩:=SB a8 (ak _ _);rw[hst]at c8 SB;obtain ⟨lt,i9⟩:=kq (qs l.sec l.nano p.sec p.nano);rw[<-i9]at AF;have h8:Hid ((p.stamped&& !qs l.sec l.nano p.sec p.nano)= !lt):=Hq (by rw[hst,<-i9];rfl);clear hst i9;apply yQ (λz=>a8.grownBy z none)
       case h=>
        go_region_held3 (λW=>W.cell? ⟨P.pe,8,none⟩=some (.bool true)/\W.cell? ⟨P.pe,9,none⟩=some (.int .i64 p.sec)/\W.cell? ⟨P.pe,10,none⟩=some (.int .i64 p.nano)/\W.cell? ⟨gt,3,none⟩=some (.int .i64 l.sec)/\W.cell? ⟨gt,4,none⟩=some (.int .i64 l.nano)) (first|exact ⟨c8,c9,c3,k3,k4⟩|exact ⟨z8,z9,q4,j3,j4⟩) (first
         |(go_at_call 178;(with_reducible refine (AF _).mono ?_);rintro e z ⟨rfl,gz⟩;obtain ⟨z8,z9,q4,j3,j4⟩:=SB z (ai (by repeat(first|exact ak _ _|apply aM)) gz)))
        all_goals exact ⟨rfl,rfl,ai (by repeat(first|exact ak _ _|apply aM)) gz⟩
       case k=>intro a6 b7;go_wp2;go_meet;exact ⟨by rw[h8.out],b7⟩
     case rest=>
      obtain ⟨rfl,b7⟩:=hcut;generalize wc=a6 at*;clear SB;obtain ⟨rf,f1⟩:=kq ((p.stamped&& !qs l.sec l.nano p.sec p.nano));rw[<-f1];cases rf with
      |true=>have e2:=Hq (Ha C o.dv p w l hd (R9 f1.symm));clear f1;go_wp2;go_ret;rw[a9.out,e2.out];have e:(⟨o.dv,o.aI.set i p⟩:De Bg Bu)=o:=(by rw[AV Hp.out]);rw[e];exact ⟨⟨_,rfl⟩,A,Ps,HT.out.trans (aY.new HT.out.de (ai b5.out (ai a'.out b7)))⟩
      |false=>
       have l1:Hid ((p.stamped&& !qs l.sec l.nano p.sec p.nano)=false):=Hq f1.symm;clear f1;have d0:Hid (aY x A Ps a6 A Ps o):=Hq (HT.out.trans (aY.new HT.out.de (ai b5.out (ai a'.out b7))));have H7:Hid (St a6 A P a6 A P o.dv p):=Hq (d0.out.de.start HP.out Hp.out);have f6:=Hq (b6.out.kept (ai a'.out b7) pu);have k2:=Hq (j'.out.kept (ai a'.out b7) pu);have r3:y3.heap.size<=gt:=i6;have d8:Hid (∀c∈eA A Ps,c<y3.heap.size):=k9;have l2:=Hq c4;clear b7 b5 a' HT b6 j' H6 H5 k9 i6;go_wp2_with fail;clear c4;refine fe 8 qr qr ?_;iterate 6 (apply rn;(intro b3 f;first|(go_simp;exact aq)|(have d4:=ab.cell (f6.out.kept f pu);have p6:=ab.cell (H7.out.new f).pe.pe;go_simp;exact aq));simp only[aA])
       apply rn
       ·intro b3 f
        go_simp
        exact aq
       simp only[aA];apply rn;·(intro b3 f;first|(go_simp;exact aq)|(have d4:=ab.cell (f6.out.kept f pu);have p6:=ab.cell (H7.out.new f).pe.pe;go_simp;exact aq))
       simp only[aA];refine rz ?_;intro b3 f;by_cases j1:l.ae<p.br
       ·have e2:=Hq (Ha C o.dv p w l hd (S7 j1));have h6:=Hq f;clear f;go_wp2;go_ret;rw[a9.out,e2.out];have e:(⟨o.dv,o.aI.set i p⟩:De Bg Bu)=o:=(by rw[AV Hp.out]);rw[e];exact ⟨⟨_,rfl⟩,A,Ps,d0.out.trans (aY.new d0.out.de h6.out)⟩
       have l0:=Hq (R7 l2.out l1.out j1);have I:=H7.out.new f;have ht:=f6.out.kept f pu;have k3:=ab.cell ht 3;have k4:=ab.cell ht 4;have k5:=ab.cell ht 5;have c5:b3.cell? ⟨P.pe,5,none⟩=some (.int .u32 p.at_):=ab.cell I.pe.pe 5;have c6:b3.cell? ⟨P.pe,6,none⟩=some (.int .i64 p.dj):=ab.cell I.pe.pe 6;have c8:b3.cell? ⟨P.pe,8,none⟩=some (.bool p.stamped):=ab.cell I.pe.pe 8;have c9:b3.cell? ⟨P.pe,9,none⟩=some (.int .i64 p.sec):=ab.cell I.pe.pe 9;have c3:b3.cell? ⟨P.pe,10,none⟩=some (.int .i64 p.nano):=ab.cell I.pe.pe 10;have q5:=ab.frozen I.pe.pe 5;have q6:=ab.frozen I.pe.pe 6;have q8:=ab.frozen I.pe.pe 8;have q9:=ab.frozen I.pe.pe 9;have p8:=ab.frozen I.pe.pe 10;have h6:=Hq f;have H8:=Hq I;have l5:=Hq ht;clear f I ht l2 l1;go_wp2_with fail;clear j1;go_region;obtain ⟨g9,g6⟩:=kq ((((((b3.setCell ⟨P.pe,8,none⟩ (.bool true)).setCell ⟨P.pe,9,none⟩ (.int .i64 l.sec)).setCell ⟨P.pe,10,none⟩ (.int .i64 l.nano)).setCell ⟨P.pe,6,none⟩ (.int .i64 l.aj)).setCell ⟨P.pe,5,none⟩ (.int .u32 w)).drew);rw[<-g6];obtain ⟨p3,g0⟩:=kq (Hz p w l);have i0:St a6 A P g9 A P o.dv p3:=by rw[g6,g0];exact (((((H8.out.put (p':={p with stamped:=true}) 8 (.bool true) rfl rfl rfl rfl rfl rfl rfl).put (p':={p with stamped:=true,sec:=l.sec}) 9 (.int .i64 l.sec) rfl rfl rfl rfl rfl rfl rfl).put (p':={p with stamped:=true,sec:=l.sec,nano:=l.nano}) 10 (.int .i64 l.nano) rfl rfl rfl rfl rfl rfl rfl).put (p':={p with stamped:=true,sec:=l.sec,nano:=l.nano,dj:=l.aj}) 6 (.int .i64 l.aj) rfl rfl rfl rfl rfl rfl rfl).put (p':=Hz p w l) 5 (.int .u32 w) rfl rfl rfl rfl rfl rfl rfl).new (aM (ak _ _))
       have i1:aC b3 g9 [P.pe]:=by rw[g6];exact (aC.grown (aM (aw (aw (aw (aw (aw (ak b3 (some P.pe)) 8 (.bool true)) 9 (.int .i64 l.sec)) 10 (.int .i64 l.nano)) 6 (.int .i64 l.aj)) 5 (.int .u32 w)))).mono pu
       have o8:P.pe<y3.heap.size:=d8.out _ (nu _ (Am HP.out (by simp[PA.fp])));have l6:=Hq (i1.bu l5.out (λhm=>by simp at hm;omega));have k6:Hid (ab g9 gh 323 (uv hd)):=Hq (i1.bu (k2.out.kept h6.out pu) (λhm=>by simp at hm;omega));have c0:Hid (p3.aD=p.aD):=Hq (by rw[g0];rfl);have h':=Hq g0;have j5:=Hq i0;have B:=LC g9 A o.dv i0.dv (by have:=b0.dv.index;have:=b0.dv.K;omega);obtain ⟨nI,j0⟩:∃nI,o.dv.index+1=nI:=⟨_,rfl⟩;rw[j0]at B;have h9:=Hq j0;unfold ptr at B;clear g6 g0 i0 i1 o8 H8 l5 k2 f6 k3 k4 k5 c5 c6 c8 c9 c3 q5 q6 q8 q9 p8;go_wp2_with fail;refine ax B λb8 hD=>?_;have e4:=j5.out.sO hD;obtain ⟨d1,d9⟩:=kq o.dv.wo;rw[<-d9]at e4;have g':=Hq e4;have h7:Hid (ab b8 gh 323 (uv hd)):=Hq (hD.only.bu k6.out (λhm=>by have:=d8.out gh (jF _ hm);omega));have l7:=Hq (hD.only.bu l6.out (λhm=>by have:=d8.out gt (jF _ hm);omega));have h5:=Hq d9;have l3:Hid (fg d1.an d1.fresh=fg o.dv.an o.dv.fresh):=Hq (by rw[d9];rfl);have b':Hid (d1.aj=o.dv.aj):=Hq (by rw[d9];rfl);have c7:Hid (bq (K+2) d1):=Hq (by have k:=b0.dv;rw[d9];exact ⟨k.here,k.own,k.ag,k.an,k.aj,k.bt,k.now,fX k.fresh,tH k.index,fX k.dr,fX k.bk,k.jw,fX k.out,fX k.aE,pm⟩)
       have n0:∀b∈A.fp,b<b8.heap.size:=λb hb=>(e4.dv.kinds b hb).2;have l9:a6.heap.size<=b8.heap.size:=e4.only.size;clear d9 e4 hD B j5 l6 k6;obtain ⟨m1,ac,q7,q',i3⟩:=hC.answer hd p.aD (fg o.dv.an o.dv.fresh) o.dv.aj nI p7 n9.ok.aD (nU _ _) b0.dv.aj (by have:=b0.dv.index;have:=b0.dv.K;omega);obtain ⟨r,u⟩:∃r,C.answer hd p.aD (fg o.dv.an o.dv.fresh) o.dv.aj nI=r:=⟨_,rfl⟩;rw[u]at m1 i3;have h0:=Hq i3;clear i3;have j6:=Hq u;clear u j0;cases r with
       |none=>
        go_wp2_with fail;apply Hy 20 6 19 17 (iq b8.heap.size A.fp) (vJ a6 A P d1 p3 b8.heap.size [.string ⟨#[]⟩, .string ⟨#[]⟩]) _ qr qr (λ_ _ h=>iq.new h) (λ_ _ _ h k=>h.trans k) (⟨g'.out,λ_ e=>by cases e⟩) (λ_ _ _ _ _ h g=>h.new g);intro u0;iterate 6 (apply py;rfl;(intro J b2 m q a0 U a4 R a5 a7 f u;first|(go_simp;exact aq)|(have z4:q.cell? ⟨P.pe,4,none⟩=some (.string ⟨p.aD.toArray⟩):=(c0.out▸ab.cell u.1.pe.pe 4);have z4:q.cell? ⟨A.dev,4,none⟩=some (.int .i64 o.dv.aj):=(by have e:=ab.cell u.1.dv.dv 4;cases J<;>exact b'.out▸e);go_simp;exact aq));simp only[aA])
        apply Jx rfl
        ·intro J b2 m q a0 U a4 R a5 a7 f u;obtain rfl:=U (Or.inl rfl);have I:St a6 A P q A P d1 p3:=u.1;have B:=xQ q A d1 I.dv (by have:=c7.out.fresh;have:=c7.out.K;omega) (by have:=c7.out.an;omega);rw[l3.out]at B;unfold S ptr at B
         go_simp
         refine ax B λy hD=>?_;exact gw (iq.of hD.only (λi hi=>Or.inl hi)) ⟨I.sO hD,λv e=>(u.2 v e).imp λg h=>⟨h.1,h.2.1,hD.only.bu h.2.2 (λhm=>by have:=n0 g hm;have:=h.2.1;omega)⟩⟩
        simp only[aA];iterate 5 (apply py;rfl;(intro J b2 m q a0 U a4 R a5 a7 f u;first|(go_simp;exact aq)|(have z4:q.cell? ⟨P.pe,4,none⟩=some (.string ⟨p.aD.toArray⟩):=(c0.out▸ab.cell u.1.pe.pe 4);have z4:q.cell? ⟨A.dev,4,none⟩=some (.int .i64 o.dv.aj):=(by have e:=ab.cell u.1.dv.dv 4;cases J<;>exact b'.out▸e);go_simp;exact aq));simp only[aA])
        apply py;rfl
        ·intro J b2 m q a0 U a4 R a5 a7 f u;have hh:ab q gh 323 (uv hd):=(iq.only f).bu h7.out (λhm=>by have:=d8.out gh (jF _ hm);have:=n2;omega);have B:=h0.out q gh hh;unfold Cb Grown S ptr at B
         go_simp
         refine ax B λy hy=>?_;exact gv hy
        simp only[aA];iterate 4 (apply py;rfl;(intro J b2 m q a0 U a4 R a5 a7 f u;first|(go_simp;exact aq)|(have z4:q.cell? ⟨P.pe,4,none⟩=some (.string ⟨p.aD.toArray⟩):=(c0.out▸ab.cell u.1.pe.pe 4);have z4:q.cell? ⟨A.dev,4,none⟩=some (.int .i64 o.dv.aj):=(by have e:=ab.cell u.1.dv.dv 4;cases J<;>exact b'.out▸e);go_simp;exact aq));simp only[aA])
        apply Jy (λv=>v) rfl
        ·intro J b2 m q a0 U a4 R a5 a7 f u;obtain rfl:=R (Or.inr qr)
         go_simp
         exact gq ⟨0, .pointer (some ⟨q.heap.size,0,none⟩)⟩ (iq.new (aT _ _ _)) trivial ⟨u.1.new (aT _ _ _),λv e=>⟨q.heap.size,by cases e;rfl,f.size,ab.new _ _ _⟩⟩
        simp only[aA];apply py;rfl;·(intro J b2 m q a0 U a4 R a5 a7 f u;first|(go_simp;exact aq)|(have z4:q.cell? ⟨P.pe,4,none⟩=some (.string ⟨p.aD.toArray⟩):=(c0.out▸ab.cell u.1.pe.pe 4);have z4:q.cell? ⟨A.dev,4,none⟩=some (.int .i64 o.dv.aj):=(by have e:=ab.cell u.1.dv.dv 4;cases J<;>exact b'.out▸e);go_simp;exact aq))
        simp only[aA];apply QR rfl
        ·intro J b2 m q a0 U a4 R a5 a7 f u;generalize (u0 17).v=d7 at*;obtain rfl:=a5 qr;obtain rfl:=R (Or.inl rfl);obtain ⟨g,d3,f0,hB⟩:=u.2 _ rfl;subst d3;have z0:=ab.cell hB 0;have z1:=ab.cell hB 1;have q0:=ab.frozen hB 0;have q1:=ab.frozen hB 1;have hO:∀a b:Value,aC q ((q.setCell ⟨g,0,none⟩ a).setCell ⟨g,1,none⟩ b) [g]:=λa b=>(aC.grown (aw (aw (ak q (some g)) 0 a) 1 b)).mono pu
         go_simp
         exact gw (iq.of (hO _ _) (λi hi=>by simp at hi;right;omega)) ⟨u.1.MU (hO _ _) hB.kind ut (bJ l9 f0),λv e=>⟨g,by cases e;rfl,f0,(hB.set 0 _).set 1 _⟩⟩
        simp only[aA];refine tz ?_;intro q f hR;generalize (u0 17).v=d7 at*;obtain ⟨e6,e5⟩:vJ a6 A P d1 p3 b8.heap.size [.string ⟨#[]⟩, .string ⟨#[]⟩] true true (some d7) q:=hR;obtain ⟨gk,d3,_,_⟩:=e5 d7 rfl;subst d3;have b9:Hid (St a6 A P q A P d1.fu p3):=Hq e6;have m6:((ac:Int) !=0)=true:=(by rw[dY];omega);have f3:Hid (iz C o.dv p w l hd=(d1.fu,p3)):=Hq (by rw[h'.out,h5.out];unfold iz;rw[l0.out,hC.key];simp only[tG,oE];have e:=j6.out;rw[<-h9.out]at e;rw[e];rfl)
        clear e6 e5 f;go_wp2;go_ret;rw[a9.out,f3.out];exact ⟨⟨_,rfl⟩,_,_,d0.out.trans (aY.peer d0.out.de HP.out Hp.out b9.out)⟩
       |some r=>
        obtain ⟨f2,d6,d5⟩:=r;obtain ⟨a1,a2,a3⟩:=m1 f2 d6 d5 rfl;go_wp2_with fail;apply Hy 20 6 19 17 (iq b8.heap.size A.fp) (vJ a6 A P d1 p3 b8.heap.size [.string ⟨d6.toArray⟩, .string ⟨d5.toArray⟩]) _ qr qr (λ_ _ h=>iq.new h) (λ_ _ _ h k=>h.trans k) (⟨g'.out,λ_ e=>by cases e⟩) (λ_ _ _ _ _ h g=>h.new g);intro u0;iterate 6 (apply py;rfl;(intro J b2 m q a0 U a4 R a5 a7 f u;first|(go_simp;exact aq)|(have z4:q.cell? ⟨P.pe,4,none⟩=some (.string ⟨p.aD.toArray⟩):=(c0.out▸ab.cell u.1.pe.pe 4);have z4:q.cell? ⟨A.dev,4,none⟩=some (.int .i64 o.dv.aj):=(by have e:=ab.cell u.1.dv.dv 4;cases J<;>exact b'.out▸e);go_simp;exact aq));simp only[aA])
        apply Jx rfl
        ·intro J b2 m q a0 U a4 R a5 a7 f u;obtain rfl:=U (Or.inl rfl);have I:St a6 A P q A P d1 p3:=u.1;have B:=xQ q A d1 I.dv (by have:=c7.out.fresh;have:=c7.out.K;omega) (by have:=c7.out.an;omega);rw[l3.out]at B;unfold S ptr at B
         go_simp
         refine ax B λy hD=>?_;exact gw (iq.of hD.only (λi hi=>Or.inl hi)) ⟨I.sO hD,λv e=>(u.2 v e).imp λg h=>⟨h.1,h.2.1,hD.only.bu h.2.2 (λhm=>by have:=n0 g hm;have:=h.2.1;omega)⟩⟩
        simp only[aA];iterate 5 (apply py;rfl;(intro J b2 m q a0 U a4 R a5 a7 f u;first|(go_simp;exact aq)|(have z4:q.cell? ⟨P.pe,4,none⟩=some (.string ⟨p.aD.toArray⟩):=(c0.out▸ab.cell u.1.pe.pe 4);have z4:q.cell? ⟨A.dev,4,none⟩=some (.int .i64 o.dv.aj):=(by have e:=ab.cell u.1.dv.dv 4;cases J<;>exact b'.out▸e);go_simp;exact aq));simp only[aA])
        apply py;rfl
        ·intro J b2 m q a0 U a4 R a5 a7 f u;have hh:ab q gh 323 (uv hd):=(iq.only f).bu h7.out (λhm=>by have:=d8.out gh (jF _ hm);have:=n2;omega);have B:=h0.out q gh hh;unfold Cb Grown S ptr at B
         go_simp
         refine ax B λy hy=>?_;exact gv hy
        simp only[aA];iterate 4 (apply py;rfl;(intro J b2 m q a0 U a4 R a5 a7 f u;first|(go_simp;exact aq)|(have z4:q.cell? ⟨P.pe,4,none⟩=some (.string ⟨p.aD.toArray⟩):=(c0.out▸ab.cell u.1.pe.pe 4);have z4:q.cell? ⟨A.dev,4,none⟩=some (.int .i64 o.dv.aj):=(by have e:=ab.cell u.1.dv.dv 4;cases J<;>exact b'.out▸e);go_simp;exact aq));simp only[aA])
        apply Jy (λv=>v) rfl
        ·intro J b2 m q a0 U a4 R a5 a7 f u;obtain rfl:=R (Or.inr qr)
         go_simp
         exact gq ⟨0, .pointer (some ⟨q.heap.size,0,none⟩)⟩ (iq.new (aT _ _ _)) trivial ⟨u.1.new (aT _ _ _),λv e=>⟨q.heap.size,by cases e;rfl,f.size,ab.new _ _ _⟩⟩
        simp only[aA];apply py;rfl;·(intro J b2 m q a0 U a4 R a5 a7 f u;first|(go_simp;exact aq)|(have z4:q.cell? ⟨P.pe,4,none⟩=some (.string ⟨p.aD.toArray⟩):=(c0.out▸ab.cell u.1.pe.pe 4);have z4:q.cell? ⟨A.dev,4,none⟩=some (.int .i64 o.dv.aj):=(by have e:=ab.cell u.1.dv.dv 4;cases J<;>exact b'.out▸e);go_simp;exact aq))
        simp only[aA];apply QR rfl
        ·intro J b2 m q a0 U a4 R a5 a7 f u;generalize (u0 17).v=d7 at*;obtain rfl:=a5 qr;obtain rfl:=R (Or.inl rfl);obtain ⟨g,d3,f0,hB⟩:=u.2 _ rfl;subst d3;have z0:=ab.cell hB 0;have z1:=ab.cell hB 1;have q0:=ab.frozen hB 0;have q1:=ab.frozen hB 1;have hO:∀a b:Value,aC q ((q.setCell ⟨g,0,none⟩ a).setCell ⟨g,1,none⟩ b) [g]:=λa b=>(aC.grown (aw (aw (ak q (some g)) 0 a) 1 b)).mono pu
         go_simp
         exact gw (iq.of (hO _ _) (λi hi=>by simp at hi;right;omega)) ⟨u.1.MU (hO _ _) hB.kind ut (bJ l9 f0),λv e=>⟨g,by cases e;rfl,f0,(hB.set 0 _).set 1 _⟩⟩
        simp only[aA];refine tz ?_;intro q f hR;generalize (u0 17).v=d7 at*;obtain ⟨e6,e5⟩:vJ a6 A P d1 p3 b8.heap.size [.string ⟨d6.toArray⟩, .string ⟨d5.toArray⟩] true true (some d7) q:=hR;obtain ⟨gk,d3,r2,n4⟩:=e5 d7 rfl;subst d3;obtain ⟨d2,e7⟩:=kq d1.fu;have b9:Hid (St a6 A P q A P d2 p3):=Hq (by rw[e7];exact e6);have k7:Hid (ab q gk 246 [.string ⟨d6.toArray⟩, .string ⟨d5.toArray⟩]):=Hq n4;have l8:=Hq ((iq.only f).bu l7.out (λhm=>by have:=d8.out gt (jF _ hm);omega));obtain ⟨sN,g2⟩:=kq (OV o.dv l d6 d5:Se);have hm:=λW:World=>LG W l.ae t1 d6 d5 a2 a3 o.dv.now b0.dv.now false nI l.index;have e9:(⟨l.ae,nI,l.index,d6,d5,o.dv.now,0,false,0,0⟩:Se)=sN:=(by rw[g2,<-h9.out];rfl);rw[e9]at hm;unfold S at hm;have HM:=Hq hm;have e3:Hid (d2.now=o.dv.now):=Hq (by rw[e7,h5.out];rfl);have o0:Hid (bq (K+3) d2):=Hq (by rw[e7];exact c7.out.keyed pm);have o3:Hid (dR d2.now p3):=Hq (by rw[e3.out,h'.out];exact NP n9 g3 ⟨t1,t2,t3,t4,t5⟩);have o5:Hid (iJ d2.now sN):=Hq (by rw[e3.out,g2];exact OW b0.dv ⟨t1,t2,t3,t4,t5⟩ a2 a3);have f3:Hid (iz C o.dv p w l hd=(d2.dt ({p3 with next:=some sN}:Pe Bg).at_ (mq ({p3 with next:=some sN}:Pe Bg).ag (if({p3 with next:=some sN}:Pe Bg).eQ<d2.now then []else({p3 with next:=some sN}:Pe Bg).ew) f2),{p3 with next:=some sN})):=Hq (by rw[e3.out,e7,g2,h'.out,h5.out];unfold iz;rw[l0.out,hC.key];simp only[tG,oE];have e:=j6.out;rw[<-h9.out]at e;rw[e];dsimp only;unfold Pe.marked;rw[hC.mark];rfl)
        clear e7 e6 e5 n4 f g2 hm e9 h0 g' h7 l7;go_wp2_with fail;have k8:eF 12 1001 1002 (λa b=>a.grownBy b none) (λ_ _ _=>True) [(11,λrr zz=>(λv z=>∃a:SA,v= .pointer (some ⟨a.se,0,none⟩)/\dN z a sN/\∀b∈a.fp,q.heap.size<=b) rr.v zz)]:=⟨λ_ _ h=>h,λ_ _ _=>ai,λ_ _ _ _ _ _=>True.intro,⟨λ_ ⟨_,v⟩ x y h g=>h.imp λa ha=>⟨ha.1,ha.2.1.only (aC.new g []) pu,ha.2.2⟩,True.intro⟩,λe=>absurd e ut,λe=>absurd e ut,qr⟩;apply gT k8 qr qr (True.intro);intro u0;iterate 3 (apply aX;rfl;(intro J b2 b4 a0 U a4 R hq f u;first|(go_simp;exact aq)|(have d4:=ab.cell (l8.out.kept f pu);have z9:b4.cell? ⟨A.dev,9,none⟩=some (.int .i64 o.dv.now):=(e3.out▸ab.cell (b9.out.new f).dv.dv 9);go_simp;exact aq));simp only[aA])
        apply aX;rfl
        ·intro J b2 b4 a0 U a4 R hq f u;have hc:=k7.out.kept f pu;have k0:=ab.cell hc 0;have k1:=ab.cell hc 1
         go_simp
         exact aq
        simp only[aA];iterate 7 (apply aX;rfl;(intro J b2 b4 a0 U a4 R hq f u;first|(go_simp;exact aq)|(have d4:=ab.cell (l8.out.kept f pu);have z9:b4.cell? ⟨A.dev,9,none⟩=some (.int .i64 o.dv.now):=(e3.out▸ab.cell (b9.out.new f).dv.dv 9);go_simp;exact aq));simp only[aA])
        apply jy k8 (λrr=>rr.v) 0 rfl ut
        ·intro J b2 b4 a0 U a4 R hq f u;have B:=HM.out b4
         go_simp
         refine B.mono ?_;rintro e y ⟨a,rfl,p4,o9,p0⟩;exact gp ⟨0, .pointer (some ⟨a.se,0,none⟩)⟩ o9 ⟨a,rfl,p4,λb hb=>bJ f.size (p0 b hb)⟩
        simp only[aA];refine pz ?_;intro b4 f hR hq;have q2:=hq.at (k:=0) (j:=11) rfl;generalize (u0 11).v=r8 at*;obtain ⟨a,o7,m0,f'⟩:=q2;subst o7;have I:=b9.out.new f;have p5:b4.cell? ⟨P.pe,19,none⟩=some (dO (P.next.map SA.se)):=ab.cell I.pe.pe 19;have q3:=ab.frozen I.pe.pe 19;have i8:∀c∈P.fp,c<q.heap.size:=λc hc=>(b9.out.pe.kinds c hc).2;obtain ⟨p9,g1⟩:=kq ({p3 with next:=some sN}:Pe Bg);obtain ⟨P9,i2⟩:=kq ({P with next:=some a}:PA);have hW:St a6 A P (b4.setCell ⟨P.pe,19,none⟩ (.pointer (some ⟨a.se,0,none⟩))) A P9 d2 p9:=by
         rw[g1,i2];refine I.write (P':={P with next:=some a}) (p':={p3 with next:=some sN}) 19 (.pointer (some ⟨a.se,0,none⟩)) rfl rfl rfl rfl I.pe.waits I.pe.begun I.pe.aN I.pe.aL m0 I.pe.a1 ?_ ?_ ?_
         ·intro c hc hm;have h1:=f' c hc;have h2:=i8 c (by simp only[PA.fp,bG];exact Or.inl (Or.inl (Or.inr hm)));omega
         ·intro c hc hm;have h1:=f' c hc;have h2:=i8 c (by simp only[PA.fp,bG];exact Or.inl (Or.inr hm));omega
         intro c hc;simp only[PA.fp,bG]at hc⊢;rcases hc with hc|hc
         ·exact Or.inl (Or.inl hc)
         exact Or.inr (Or.inr (Or.inr (bJ b9.out.only.size (f' c hc))))
        have l':P9.pe=P.pe:=(by rw[i2]);have o4:cT d2.now p9:=by rw[g1];exact ((o3.out).Rm o5.out).ok
        have j8:Hid (iz C o.dv p w l hd=(d2.dt p9.at_ (mq p9.ag (if p9.eQ<d2.now then []else p9.ew) f2),p9)):=Hq (by rw[g1];exact f3.out);have HW:=Hq hW;have o6:=Hq l';clear I m0 f' f i8 g1 i2 hW l' b9 HM k7 f3;go_wp2_with fail;obtain ⟨y9,n8⟩:=kq (b4.setCell ⟨P.pe,19,none⟩ (.pointer (some ⟨a.se,0,none⟩)));rw[<-n8]at HW⊢;clear n8 p5 q3;have B:=VT a6 y9 A A P P9 d2 p9 HW.out o4 (K+3) o0.out f2 pm;unfold ir ptr S at B;rw[o6.out]at B;refine B.mono ?_;rintro e ye ⟨rfl,A3,P3,h3⟩;obtain ⟨dF,m8⟩:=kq (d2.dt p9.at_ (mq p9.ag (if p9.eQ<d2.now then []else p9.ew) f2));have i4:=j8.out;rw[<-m8]at i4 h3;have o1:=Hq i4;have HH:=Hq h3;clear h3 B m8 i4 j8;go_wp2;go_ret;rw[a9.out,o1.out];exact ⟨⟨_,rfl⟩,_,_,d0.out.trans (aY.peer d0.out.de HP.out Hp.out HH.out)⟩
  have m6:((tc:Int) !=0)=true:=by rw[dY];omega
  have a9:Hid (d.first C w s=asked C d w):=Hq (by
   rw[Nb C d w s h4.out f7];cases e:(C.take d.dv.bk w d.dv.now).1with
   |false=>rfl
   |true=>exact absurd (g4.1 e) j2)
  clear g4 j2;go_wp2;go_ret;rw[a9.out];exact ⟨⟨_,rfl⟩,A,Ps,HT.out⟩
end
end Go.Proofs.YtmomfbkpniblgaaGreatDoor
