/- A part of this claim's proof. -/
import Derived.Test.YtmomfbkpniblgaaGreatDoorYj31
set_option linter.all false
set_option maxHeartbeats 32000000
set_option maxRecDepth 100000
namespace Go.Proofs.YtmomfbkpniblgaaGreatDoor
open Go.Proofs.Tryz
variable {fA:Bool}{xs:Lv}{g i n:Nat}{e:TypeId}{w x y:World}
section
open Go.RowKit Top
def qt(l:Li Bg Bu)(f:De Bg Bu->De Bg Bu)(m:Nat):Li Bg Bu:=⟨(l.nodes.take m).map (λx=>{x with de:=f x.de})++l.nodes.drop m,l.air⟩
def OE (l:Li Bg Bu)(f:De Bg Bu->De Bg Bu)(m:Nat)(h:m<l.nodes.length):(qt l f m).nodes[m]?=some l.nodes[m]:=by show((l.nodes.take m).map _++l.nodes.drop m)[m]?=_;rw[qI (by rw[cY,aJ];omega),cY,aJ,iF pm,il,qL];simp[h]
def a8 (l:Li Bg Bu)(f:De Bg Bu->De Bg Bu)(m:Nat)(h:m<l.nodes.length):qt l f (m+1)=(qt l f m).on m f:=by
 unfold Li.on;rw[OE l f m h];unfold qt;dsimp only;have e:((l.nodes.take m).map (λx:No Bg Bu=>({x with de:=f x.de}:No Bg Bu))).length=m:=by rw[cY,aJ];omega
 rw[fP h,jW,kp _ _ pm,e,il,dM,jV h];rfl
def tk(C:Cr Bg Hd Bu)(a:Int)(d:De Bg Bu):De Bg Bu:=if 0<=a/\a<=1099511627776-(d.dv.now:Int)then d.tick C a.toNat else d
def wN(a:Int)(d:De Bg Bu):Nat:=if 0<=a/\a<=1099511627776-(d.dv.now:Int)then 0 else 1
def RX (C:Cr Bg Hd Bu)(l:Li Bg Bu)(a:Ac)(h:a.kind=2):(l.act C a).1=qt l (tk C a.a) l.nodes.length:=by unfold Li.act qt;rw[au pm,av h,pK,tI,ev];dsimp only;congr 1;apply By;intro x b;unfold tk;split<;>rfl
def yI(l:Li Bg Bu)(a:Int)(m:Nat):Nat:=match(l.nodes.take m).getLast? with
 |none=>0
 |some x=>wN a x.de
def abD (l:Li Bg Bu)(a:Int)(m:Nat)(h:m<l.nodes.length):yI l a (m+1)=wN a l.nodes[m].de:=by unfold yI;rw[fP h,List.getLast?_append];rfl
def RY (C:Cr Bg Hd Bu)(l:Li Bg Bu)(a:Ac)(h:a.kind=2):(l.act C a).2=some (yI l a.a l.nodes.length):=by
 unfold Li.act yI;rw[au pm,av h,pK];dsimp only;cases l.nodes.getLast? with
 |none=>rfl
 |some x=>unfold wN;dsimp only
def fU(a:Nat->Nat):Nat->Own
 |0=>λ_=>none
 |m+1=>gX (fU a m) (cV (a m) 24) (m:Int)
def Jz (a:Nat->Nat):∀m,(iw (fU a m)).length<=m
 |0=>by have e:iw (fU a 0)=[]:=Is _ _ _ (λ_=>rfl);rw[e];exact bm _
 |m+1=>by
  have h:=Jz a m;rw[fU];cases e:fU a m (cV (a m) 24)with
  |none=>rw[FB _ _ _ (by rw[vM];omega) e];omega
  |some u=>rw[FC _ _ _ u e];omega
def JA (a:Nat->Nat):∀m p v,fU a m p=some v->∃j,j<m/\p=cV (a j) 24/\v=(j:Int)
 |0,p,v,h=>by cases h
 |m+1,p,v,h=>by
  rw[fU]at h;unfold gX at h;split at h
  ·rename_i e;exact ⟨m,pm,e,(aH h).symm⟩
  obtain ⟨j,c,b⟩:=JA a m p v h;exact ⟨j,pm,b⟩
def aaZ (a:Nat->Nat)(m:Nat)(hm:m<8)(h:a m*2^24%4294967296=0):wG (fU a m) (a m) 24 (m:Int)=(0,fU a (m+1)):=by
 unfold wG;rw[au pm];rw[show(24:Int).toNat=24from rfl,au (by simpa using h)];split
 ·rfl
 rw[au (by have:=Jz a m;omega)];rfl
def rK(O:Own)(x:Nat):Option Nat:=if x<4294967296then(jx O x 33).map Int.toNat else none
def Qf (a:Nat->Nat)(m x:Nat)(c:x<4294967296):jx (fU a m) x 33=(rK (fU a m) x).map Int.ofNat:=by
 unfold rK;rw[av c];cases e:jx (fU a m) x 33with
 |none=>rfl
 |some v=>rw[xV]at e;obtain ⟨k,_,b,_⟩:=GY _ _ _ _ e;obtain ⟨j,_,_,rfl⟩:=JA a m _ _ b;rfl
def SM {a b:Nat}(f:a<2^32)(j:b<2^32):cV a 24=cV b 24↔a/256=b/256:=by
 have c:=JO a f 24 pm;have d:=JO b j 24 pm;constructor
 ·intro h;rw[h,d]at c;exact c.symm
 intro h;refine aci _ _ (by rw[vM,vM]) ?_;rw[c,d];exact h
def X4 (a:Nat->Nat)(m x n:Nat)(l:∀j,j<m->a j<2^32)(h:rK (fU a m) x=some n):x<4294967296/\n<m/\x/256=a n/256:=by
 unfold rK at h;split at h
 ·rename_i d;cases e:jx (fU a m) x 33with
  |none=>rw[e]at h;cases h
  |some v=>
   rw[e]at h;have h:=aH h;rw[xV]at e;obtain ⟨k,_,f,_⟩:=GY _ _ _ _ e;obtain ⟨j,b,c,rfl⟩:=JA a m _ _ f;have o:k=24:=by have:=iQ List.length c;rwa[vM,vM]at this
   subst o;have:n=j:=(by rw[<-h];rfl);subst this;exact ⟨d,b,(SM d (l _ b)).1 c⟩
 cases h
structure di where
 ag:af
 aD:af
 at_:Nat
 addr:Nat
def mA(n:Nat)(a:di):Pe Bg:=⟨n,a.ag,a.aD,a.at_,1,1,false,0,0,[],0,[],none,0,[],none,none,none,Ti.zero⟩
def mB(l:List di)(m:Nat):List (Pe Bg):=(l.take m).mapIdx mA
def MJ(c:Nat)(own b:af)(a:Nat)(l:List di)(m:Nat):Dv Bu:=⟨c,own,cS own eB,b,a,0,[],0,0,0,false,rK (fU (λj=>((l[j]?).map di.addr).getD 0) m),(0,0,λ_=>none),[],[]⟩
def iM(c:Nat)(own b:af)(a:Nat)(l:List di)(m:Nat):De Bg Bu:=⟨MJ c own b a l m,mB l m⟩
def xT(c:Nat)(own a:af)(b:Nat)(l:List di):De Bg Bu:=⟨{MJ c own a b l l.length with fresh:=1,bt:=fg a 0},mB l l.length⟩
def JL(own:af)(l:List di)(m:Nat):Prop:=∃a,l[m]?=some a/\(a.ag=cS own eB\/∃j b,j<m/\l[j]?=some b/\b.ag=a.ag)
def DX (l:List di)(m:Nat)(h:m<=l.length):(mB l m).length=m:=by unfold mB;rw[List.length_mapIdx,aJ];omega
def J' (l:List di)(m j:Nat)(a:di)(h:j<m)(b:l[j]?=some a):(mB l m)[j]?=some (mA j a):=by unfold mB;rw[List.getElem?_mapIdx,lN,av h,b];rfl
def PI (l:List di)(m:Nat){p:Pe Bg}{j:Nat}(h:(mB l m)[j]?=some p):∃a,j<m/\l[j]?=some a/\p=mA j a:=by
 unfold mB at h;rw[List.getElem?_mapIdx,lN]at h;split at h
 ·cases e:l[j]?with
  |none=>rw[e]at h;cases h
  |some a=>rw[e]at h;exact ⟨a,jp,rfl,(aH h).symm⟩
 cases h
def L7 (l:List di)(m:Nat)(a:di)(b:l[m]?=some a):mB l (m+1)=mB l m++[mA m a]:=by
 have c:m<l.length:=by
  rcases eR m l.length with e|e
  ·exact e
  rw[eE e]at b;cases b
 have d:(l.take m).length=m:=by rw[aJ];omega
 unfold mB;rw[fP c,List.mapIdx_append,d];rw[aW c]at b;rw[aH b];simp
def iV(a:af)(n:Nat):af:=jP 1 (fI 1 a [UInt8.ofNat n]) 1
def tf (a:af)(n:Nat):(iV a n).length=32:=by unfold iV;rw[jP,wm]
def CW (w:World)(b:Nat)(a:af)(P:a.length=32)(I:w.cell? ⟨b,0,none⟩=some (S a))(n:Nat)(J:n<256):
 Calls prog 36 #[.int .i64 n,ptr b] w (Grown (S (iV a n)) w):=by
 have d:∀W:World,Calls prog 37 #[.int .i64 1,S a,S [UInt8.ofNat n], .int .i64 1] W (pR [iV a n] W):=λW=>uf W 1 (Or.inl rfl) a [UInt8.ofNat n] 1 pm pm pm pu;have U:IntKind.u8.wrap (n:Int)=(n:Int):=xt _ pm;have R:(n:Int)%256=(n:Int):=pm
 have t:=λW:World=>uh W n (UInt8.ofNat n) pp;unfold pR S at d;generalize r:iV a n=s at*;generalize q:UInt8.ofNat n=u at*;clear r q;unfold S ptr at*;go_enter func36,ntmps36;go_wp2_with fail;refine (d _).mono ?_;rintro e x ⟨v,rfl,l,k⟩;obtain ⟨g,o,f,c,h,z,C,p,j⟩:=(Pv l).at pu;have c:v= .slice (some ⟨g,o,none⟩) 1 f:=c;have h:1<=f:=h;have c0:x.cell? ⟨g,o,none⟩=some (.string ⟨s.toArray⟩):=j 0 _ rfl;subst c;have m:=Hq (ai (aT w _ none) k);clear l k j p;go_wp2;go_ret;exact ⟨rfl,m.out⟩
def Uo x (A:DA)(d:Dv Bu)(h:cZ x A d)(b:Bool):
 Calls prog 41 #[ptr A.dev, .bool b] x (λe y=>e= .returned (.tuple #[])/\∃A',gf x A y A' {d with busy:=b}):=by
 have k:=ab.cell h.dv 10;have q:=ab.frozen h.dv 10;have H:=Hq (h.put (d':={d with busy:=b}) 10 (.bool b) rfl rfl rfl rfl rfl);clear h;unfold ptr;go_enter func41,ntmps41;go_wp2;go_end0;exact ⟨rfl,A,H.out⟩
def gj {d:Nat}{v}(h:aZ w e d v n xs):∃a b,v= .slice a n b:=by
 rcases h.2with⟨e,c⟩|⟨g,o,b,f,e,_⟩
 ·exact ⟨none,0,by rw[e,c]⟩
 exact ⟨_,b,e⟩
def UI x (A:DA)(d:Dv Bu)(h:cZ x A d):
 Calls prog 27 #[ptr A.dev] x (λe y=>e= .returned A.out/\eU y A.out d.out/\∃A',gf x A y A' {d with out:=[]}):=by
 have k:x.cell? ⟨A.dev,14,none⟩=some A.out:=ab.cell h.dv 14;have q:=ab.frozen h.dv 14;obtain ⟨m,f⟩:=h.write (A':={A with out:= .slice none 0 0}) (d':={d with out:=[]}) 14 (.slice none 0 0) rfl rfl rfl rfl rfl (nX _ _ _) h.aE rfl rfl;have o:eU (x.setCell ⟨A.dev,14,none⟩ (.slice none 0 0)) A.out d.out:=h.out.only f (λb c hm=>by have l:=(h.out.kind b c).1;simp at hm;rw[hm,h.dv.kind]at l;exact absurd (aH l) ut)
 have H1:=Hq m;have p:=Hq f;have r:=Hq o;obtain ⟨a,t,j⟩:=gj h.out;rw[j]at k;have s:=Hq j;clear h m f o j;unfold ptr;go_enter func27,ntmps27;go_wp2;go_ret;refine ⟨by rw[s.out];rfl,r.out,_,H1.out,p.out.mono (by simp[DA.fp]),rfl,rfl,rfl,rfl,rfl,λb c=>Or.inl ?_⟩;simp only[DA.fp,Value.ownBlock,Option.toList,ev,bG,bp,dD,dH]at c⊢;rcases c with c|c
 ·exact Or.inl (Or.inl c)
 exact Or.inr c
def Ux x (A:DA)(d:Dv Bu)(h:cZ x A d):
 Calls prog 28 #[ptr A.dev] x (λe y=>e= .returned A.aE/\iI y A.aE d.aE/\∃A',gf x A y A' {d with aE:=[]}):=by
 have k:x.cell? ⟨A.dev,15,none⟩=some A.aE:=ab.cell h.dv 15;have q:=ab.frozen h.dv 15;obtain ⟨m,f⟩:=h.write (A':={A with aE:= .slice none 0 0}) (d':={d with aE:=[]}) 15 (.slice none 0 0) rfl rfl rfl rfl rfl h.out (nX _ _ _) rfl rfl;have o:iI (x.setCell ⟨A.dev,15,none⟩ (.slice none 0 0)) A.aE d.aE:=h.aE.only f (λb c hm=>by have l:=(h.aE.kind b c).1;simp at hm;rw[hm,h.dv.kind]at l;exact absurd (aH l) ut)
 have H1:=Hq m;have p:=Hq f;have r:=Hq o;obtain ⟨a,t,j⟩:=gj h.aE;rw[j]at k;have s:=Hq j;clear h m f o j;unfold ptr;go_enter func28,ntmps28;go_wp2;go_ret;refine ⟨by rw[s.out];rfl,r.out,_,H1.out,p.out.mono (by simp[DA.fp]),rfl,rfl,rfl,rfl,rfl,λb c=>Or.inl ?_⟩;simp only[DA.fp,Value.ownBlock,Option.toList,ev,bG,bp,dD,dH]at c⊢;rcases c with c|c
 ·exact Or.inl (Or.inl c)
 exact Or.inl (Or.inr c)
def Kc(w:World)(send f:Lb)(c d:Nat)(first:Bool)(e:Ending)(a:World):Prop:=
 ∃b B,e= .returned (.tuple #[.pointer (some ⟨b,0,none⟩), .int .i64 0])/\ab a b 248 [.pointer (some ⟨B,0,none⟩),S send,S f, .int .i64 c, .int .i64 d, .int .i64 0, .bool first]/\gH a B 0 0/\w.grownBy a none/\w.heap.size<=b/\w.heap.size<=B/\b≠B
def VX w (a:Nat)(f:a=1\/a=2)(send b:Lb)(p:send.length=32)(o:b.length=32)(d:Nat)(s:d<=1099511627776)(first:Bool):
 Calls prog 244 #[.int .i64 a, .agg #[S send,S b], .int .i64 d, .bool first] w (Kc w send b a d first):=by
 have v:((send.length:Int) !=32)=false:=by rw[p];rfl
 have z:((b.length:Int) !=32)=false:=by rw[o];rfl
 have C:(((a:Int)==1)||((a:Int)==2))=true:=by rcases f with rfl|rfl<;>rfl
 have I:((a:Int)==1)=false->((a:Int)==2)=true:=by rcases f with rfl|rfl<;>simp
 have m:=λW:World=>acr W;have t:decide ((d:Int)<0)=false:=pu
 have u:decide ((1099511627776:Int)<(d:Int))=false:=pp
 rcases f with rfl|rfl;all_goals
  unfold S;go_enter func244,ntmps244;go_wp2_with fail;go_region_held3 (λW=>W.cell? ⟨w.heap.size,0,none⟩=some (.string ⟨send.toArray⟩)/\W.cell? ⟨w.heap.size,1,none⟩=some (.string ⟨b.toArray⟩)) (first|exact ⟨by rw[cK (ym w _)];rfl,by rw[cK (ym w _)];rfl⟩|exact ⟨c0,c1⟩|exact ⟨cK (cG c) 0,cK (cG c) 1⟩) (first
   |(go_at_call 274;(with_reducible refine (m _).mono ?_);rintro e x1 ⟨rfl,k,h⟩;have c:=rv h (ym w (.cells #[.string ⟨send.toArray⟩, .string ⟨b.toArray⟩] 246)) nofun;have c0:=cK c 0;have c1:=cK c 1))
  all_goals
   have l:gH x1 (w.heap.size+1) 0 0:=by simpa using k
   have j:=ai (aM (aT w (.cells #[.string ⟨send.toArray⟩, .string ⟨b.toArray⟩] 246) none)) h;have r:=kE l;have q:=j.size;clear k h c c0 c1;go_wp2;go_ret2;exact ⟨x1.heap.size,w.heap.size+1,rfl,aO _ _,cG l,aF j _,q,pm,pm⟩
def LG w (d:Nat)(p:d=1\/d=2)(send f:Lb)(z:send.length=32)(v:f.length=32)(h:Nat)(u:h<=1099511627776)(first:Bool)(o m:Nat):
 Calls prog 180 #[.int .i64 d, .agg #[S send,S f], .int .i64 h, .bool first, .int .u32 o, .int .u32 m] w (λe y=>∃a:SA,e= .returned (.pointer (some ⟨a.se,0,none⟩))/\dN y a ⟨d,o,m,send,f,h,0,first,0,0⟩/\w.grownBy y none/\∀b∈a.fp,w.heap.size<=b):=by
 have j:=λW:World=>VX W d p send f z v h u first;unfold Kc S at j;clear p z v u;unfold S;go_enter func180,ntmps180;go_wp2_with fail;refine (j _).mono ?_;rintro e x1 ⟨b,B,rfl,r,q,k,P,R,a0⟩;have HB:=Hq r;have I:=Hq q;have t:=ai (aT w (.cells #[.string ⟨send.toArray⟩, .string ⟨f.toArray⟩] 246) none) k;have l:=Hq t;have C:=Hq k.size;clear r q k t j;go_wp2;go_ret;have U:=l.out.size;have J:=C.out;simp at J;refine ⟨⟨x1.heap.size,b,B⟩,rfl,⟨aO _ _,cG HB.out,cG I.out⟩,aF l.out _,λc s=>?_⟩;simp only[SA.fp,bp,dD,dH]at s;simp at P R;rcases s with rfl|rfl|rfl<;>omega
def CM (C:Cr Bg Hd Bu)(c:bD C) x (A:DA)(d:Dv Bu)(h:cZ x A d)(f:d.bt.length=32)(j:d.now<=1099511627776)(b:Nat)(k:b<4294967296):
 Calls prog 173 #[ptr A.dev, .int .u32 b] x (Grown (S (ey C d b)) x):=by
 have B:=λW:World=>Ui W d.bt b d.now f k j;unfold ey;rw[c.vT];generalize fx d.bt (oR b d.now) 16=V at*;have H:=Hq h;clear h;unfold Grown S ptr at*;go_enter func173,ntmps173;go_wp2_with fail;refine fe 15 qr qr ?_;iterate 9 (apply rn;(intro x1 a;first|(go_simp;exact aq)|(have m:=ab.cell (H.out.new a).dv;go_simp;exact aq));simp only[aA])
 apply rn
 ·intro x1 a
  go_simp
  refine ax (B x1) λy l=>?_;exact gv l
 simp only[aA];iterate 5 (apply rn;(intro x1 a;first|(go_simp;exact aq)|(have m:=ab.cell (H.out.new a).dv;go_simp;exact aq));simp only[aA])
 refine rz ?_;intro x1 a;go_wp2;go_ret;exact ⟨rfl,a⟩
def St.L9 {x0}{q A:DA}{o P P':PA}{d:Dv Bu}{p p':Pe Bg}(h:St x0 q o x A P d p)(g:x.grownBy y (some P.pe))(hB:ab y P.pe 123 (qw A.dev P' p'))(r:P'.pe=P.pe)(l:P'.tm=P.tm)(a6:p'.tm=p.tm)
 (C:kT x P'.waits p'.waits) (c:nF x P'.begun p'.begun) (ho:fL x P'.aN p'.aN) (f:fL y P'.aL p'.aL) (hn:fL x P'.next p'.next) (I:oN P'.aL P'.aN) (J:oN P'.next P'.aN) (R:oN P'.next P'.aL) (a4:∀b∈P'.fp,b∈P.fp\/x.heap.size<=b\/b∈o.fp\/x0.heap.size<=b):
 St x0 q o y A P' d p':=by
 have j:aC x y [P.pe]:=(aC.grown g).mono pu;have u:=h.pe.pe.kind;have k:∀(b:Nat) (t:TypeId),cD x b=some t->t≠123->b∉[P.pe]:=λb t c U hm=>by simp at hm;subst hm;rw[u]at c;exact U (aH c).symm
 have v:∀(a:Option SA) (s:Option Se),fL x a s->fL y a s:=λa s f=>f.only j (λb c=>by
  cases a with
  |none=>simp[dX]at c
  |some a=>cases s with
   |none=>exact f.elim
   |some s=>
    simp only[dX,SA.fp,bp,dD,dH]at c;rcases c with rfl|rfl|rfl
    ·exact k _ _ (dN.se f).kind ut
    ·exact k _ _ (dN.pr f).kind ut
    exact k _ _ (dN.wn f).kind ut)
 have a0:nF y P'.begun p'.begun:=c.only j (λb m=>by
  cases e:P'.begun with
  |none=>rw[e]at m;simp at m
  |some g=>
   rw[e]at c m;obtain rfl:b=g:=by simpa using m
   cases l:p'.begun with
   |none=>rw[l]at c;exact c.elim
   |some z=>rw[l]at c;exact k b _ (ab.kind c) ut)
 have a5:eV y A.dev P' p':=⟨by rw[r];exact hB,by rw[l,a6];exact j.obj h.pe.tm (k _ _ h.pe.tm.kind ut),aZ.only C j (λb c=>k b _ (aZ.kind C b c).1 ut),a0,v _ _ ho,f,v _ _ hn,I,J,R⟩;exact ⟨h.dv.peer j (λb c=>by simp at c;subst c;rw[u];simp[iX]),a5,h.e1,h.e2,h.e3,h.e4,h.e5,r.trans h.e6,l.trans h.e7,
  h.only.trans j (λb c=>by simp at c;subst c;exact (h.fp P.pe (by simp[PA.fp])).imp (λe=>nu _ e) id),
  h.fa,λb c=>by
   rcases a4 b c with e|e|e|e
   ·exact h.fp b e
   ·exact Or.inr (bJ h.only.size e)
   ·exact Or.inl e
   exact Or.inr e⟩
def XX {b:Nat}(g:x.grownBy y none):x.grownBy y (some b):=eo g
def zn(A:DA)(P:PA)(d:Pe Bg)(h:Se)(B:Nat)(f c:Bool)(z:World):Prop:=
 (c=false->ab z P.pe 123 ((qw A.dev P d).set 17 (if f then dO (P.aL.map SA.se)else dO (P.aN.map SA.se))))/\(c=true->∃a:SA,dN z a h/\(∀b∈a.fp,B<=b)/\ab z P.pe 123 (((qw A.dev P d).set 17 (dO (P.aL.map SA.se))).set 18 (.pointer (some ⟨a.se,0,none⟩))))
def zn.new {A:DA}{P:PA}{f:Pe Bg}{j:Se}{B:Nat}{c d:Bool}(h:zn A P f j B c d x)(g:x.grownBy y none):zn A P f j B c d y:=
 ⟨λe=>(h.1 e).kept g pu,λe=>(h.2 e).imp λa b=>⟨b.1.only (aC.new g []) pu,b.2.1,b.2.2.kept g pu⟩⟩
def AV {l:List (Pe Bg)}{p:Pe Bg}(h:l[i]?=some p):l.set i p=l:=by
 apply oy;intro j;by_cases e:i=j
 ·subst e;have a:i<l.length:=by
   rcases eR i l.length with e|e
   ·exact e
   rw[eE e]at h;cases h
  rw[kN a,h]
 rw[lJ e]
def Z7 (C:Cr Bg Hd Bu)(d:De Bg Bu)(a:Nat)(s:af)(b:C.check d.dv.ag (ey C d.dv a) s=none):d.second C a s=d:=by unfold De.second;rw[b]
def Z9 (C:Cr Bg Hd Bu)(d:De Bg Bu)(a:Nat)(s:af){t:af}(b:C.check d.dv.ag (ey C d.dv a) s=some (t,fA))(h:t.length<10):d.second C a s=d:=by unfold De.second;rw[b];dsimp only;rw[av h]
def Z6 (C:Cr Bg Hd Bu)(d:De Bg Bu)(a:Nat)(s:af){t:af}(b:C.check d.dv.ag (ey C d.dv a) s=some (t,fA))(h:¬t.length<10)(c:indexed d.aI (C.dW ((t.drop 6).take 4))=none):d.second C a s=d:=by unfold De.second;rw[b];dsimp only;rw[au h,c]
def Z0 (C:Cr Bg Hd Bu)(d:De Bg Bu)(a:Nat)(s:af){t:af}(f:C.check d.dv.ag (ey C d.dv a) s=some (t,fA))(h:¬t.length<10)(j:indexed d.aI (C.dW ((t.drop 6).take 4))=some i){p:Pe Bg}(k:d.aI[i]?=some p){b:Bg}(c:p.begun=some b):
 d.second C a s=⟨(fT C d.dv p a t b).1,d.aI.set i (fT C d.dv p a t b).2⟩:=by
 unfold De.second;rw[f];dsimp only;rw[au h,j];dsimp only;unfold De.at;rw[k];dsimp only;rw[c]
def UK (C:Cr Bg Hd Bu)(hC:bD C) x (A:DA)(Ps:List PA)(d:De Bg Bu)(h:bX x A Ps d)(K:Nat)(ok:dw K d)(hK:K+5<=100000000)(u:Nat)(k6:u<4294967296)(s:af)(hs:s.length<=2000):
 Calls prog 123 #[ptr A.dev, .int .u32 u,S s] x (im x A Ps (d.second C u s)):=by
 obtain ⟨e1,kc,n',o0,b0⟩:=hC.check d.dv.ag (ey C d.dv u) s ok.dv.ag (qd C hC _ _) hs;have AC:Hid (∀W:World,cZ W A d.dv->Calls prog 173 #[.pointer (some ⟨A.dev,0,none⟩), .int .u32 u] W (Grown (.string ⟨(ey C d.dv u).toArray⟩) W)):=Hq λW hW=>CM C hC W A d.dv hW ok.dv.bt ok.dv.now u k6;obtain ⟨fy,b9⟩:=kq (ey C d.dv u);have m9:=Hq b9;rw[<-b9]at e1 b0 AC;have R:=Hq h;have dk:=ok.dv;cases m:C.check d.dv.ag fy s with
 |none=>
  rw[m]at b0;have d4:=Hq b0;have a7:=Hq (Z7 C d u s (by rw[<-b9];exact m));clear h e1 b0 b9 m;unfold ptr S im;go_enter func123,ntmps123;go_wp2_with fail;refine fe 16 qr qr ?_;iterate 6 (apply rn;(intro x1 f;first|(go_simp;exact aq)|(have hx:=R.out.new f;have c1:=ab.cell hx.dv.dv;go_simp;exact aq));simp only[aA])
  apply rn
  ·intro x1 f;have hx:=R.out.new f;have B:=AC.out x1 hx.dv;unfold Grown at B
   go_simp
   refine ax B λy hy=>?_;exact gv hy
  simp only[aA];apply rn;·(intro x1 f;first|(go_simp;exact aq)|(have hx:=R.out.new f;have c1:=ab.cell hx.dv.dv;go_simp;exact aq))
  simp only[aA];apply rn
  ·intro x1 f;have hx:=R.out.new f;have B:=d4.out x1;unfold vE Grown S at B
   go_simp
   refine ax B λy hy=>?_;exact gv hy
  simp only[aA];iterate 7 (apply rn;(intro x1 f;first|(go_simp;exact aq)|(have hx:=R.out.new f;have c1:=ab.cell hx.dv.dv;go_simp;exact aq));simp only[aA])
  refine rz ?_;intro x1 f;have HG:=Hq f;clear f;have hk:((kc:Int) !=0)=true:=by rw[dY];omega
  go_wp2;go_ret;rw[a7.out];exact ⟨⟨_,rfl⟩,A,Ps,aY.new R.out HG.out⟩
 |some r=>
  obtain ⟨t,fA⟩:=r;have l':=e1 t fA m;rw[m]at b0;have d4:=Hq b0;have d5:Hid (C.check d.dv.ag (ey C d.dv u) s=some (t,fA)):=Hq (by rw[<-b9];exact m);clear h e1 b0 b9 m;unfold ptr S im;go_enter func123,ntmps123;go_wp2_with fail;refine fe 16 qr qr ?_;iterate 6 (apply rn;(intro x1 f;first|(go_simp;exact aq)|(have hx:=R.out.new f;have c1:=ab.cell hx.dv.dv;go_simp;exact aq));simp only[aA])
  apply rn
  ·intro x1 f;have hx:=R.out.new f;have B:=AC.out x1 hx.dv;unfold Grown at B
   go_simp
   refine ax B λy hy=>?_;exact gv hy
  simp only[aA];apply rn;·(intro x1 f;first|(go_simp;exact aq)|(have hx:=R.out.new f;have c1:=ab.cell hx.dv.dv;go_simp;exact aq))
  simp only[aA];apply rn
  ·intro x1 f;have hx:=R.out.new f;have B:=d4.out x1;unfold vE Grown S at B
   go_simp
   refine ax B λy hy=>?_;exact gv hy
  simp only[aA];iterate 7 (apply rn;(intro x1 f;first|(go_simp;exact aq)|(have hx:=R.out.new f;have c1:=ab.cell hx.dv.dv;go_simp;exact aq));simp only[aA])
  refine rz ?_;intro x1 f;have d6:=Hq f;clear f AC d4;by_cases b6:t.length<10
  ·have a7:=Hq (Z9 C d u s d5.out b6);have j3:decide ((t.length:Int)<10)=true:=pp;clear b6;go_wp2;go_ret;rw[a7.out];exact ⟨⟨_,rfl⟩,A,Ps,aY.new R.out d6.out⟩
  have j3:decide ((t.length:Int)<10)=false:=pp
  have n4:10<=t.length:=pm
  have rx:(ByteArray.mk t.toArray).extract 6 10=⟨((t.drop 6).take 4).toArray⟩:=dP t 6 10;have B:=LD C hC x1 A Ps d (R.out.new d6.out) ok.many (λp hp=>(ok.pe p hp).ok.dp) ((t.drop 6).take 4) pp;rw[ku,tN]at B;cases hi:indexed d.aI (C.dW ((t.drop 6).take 4))with
  |none=>have a7:=Hq (Z6 C d u s d5.out b6 hi);rw[hi,yo]at B;clear hi b6;unfold S ptr at B;go_wp2_with fail;refine ax B λy f=>?_;have HG:=Hq (ai d6.out f);clear f B;go_wp2;go_ret;rw[a7.out];exact ⟨⟨_,rfl⟩,A,Ps,aY.new R.out HG.out⟩
  |some i=>
   obtain ⟨p,hp,g0⟩:=IP hi;obtain ⟨P,hP⟩:=R.out.mN hp;have k8:=ok.pe p (dc hp);obtain ⟨b,J⟩:∃b,p.begun=some b:=by
    cases e:p.begun with
    |none=>rw[e]at g0;simp at g0
    |some b=>exact ⟨b,rfl⟩
   have a7:=Hq (Z0 C d u s d5.out b6 hi hp J);obtain ⟨e5,fc,n0,n1,f'⟩:=hC.finish b t (k8.bg b J) pm;obtain ⟨r,m⟩:∃r,C.finish b t=r:=⟨_,rfl⟩;rw[m]at f' e5;have g':=Hq f';have HP:=Hq hP;have Hp:=Hq hp;have HB:=Hq J;rw[hi,yp hP]at B;obtain ⟨U,b4⟩:=kq ((t.getD 1 0).toNat);have n2:∀hh,((ByteArray.mk t.toArray)[1]'hh).toNat=U:=λhh=>by have e:(ByteArray.mk t.toArray)[1]'hh=t[1]'(pm):=rfl;rw[e,b4,dh,aW pm];rfl
   have n5:U<256:=by rw[b4];exact vu _
   have n6:(ByteArray.mk t.toArray).size=t.length:=rfl;clear hi b6 f' hP hp J g0 d5;unfold S ptr at B;go_wp2_with fail;refine ax B λx2 f=>?_;have a9:=Hq (ai d6.out f);have H2:Hid (St x2 A P x2 A P d.dv p):=Hq ((R.out.new a9.out).start HP.out Hp.out);clear f B rx j3;obtain ⟨gb,j6,j2⟩:∃gb,P.begun=some gb/\ab x2 gb 312 (tZ b):=by
    have e:=H2.out.pe.begun;rw[HB.out]at e;cases e2:P.begun with
    |none=>rw[e2]at e;exact e.elim
    |some gb=>rw[e2]at e;exact ⟨gb,rfl,e⟩
   have l5:x2.cell? ⟨P.pe,14,none⟩=some (.pointer (some ⟨gb,0,none⟩)):=by have e:x2.cell? ⟨P.pe,14,none⟩=some (dO P.begun):=ab.cell H2.out.pe.pe 14;rw[j6]at e;exact e
   have BF:=g'.out x2 gb j2;clear j6 j2 g';unfold Fi Grown S ptr at BF;cases r with
   |none=>have a':Hid (fT C d.dv p u t b=(d.dv,p)):=Hq (by unfold fT;rw[m]);clear m e5;go_wp2_with fail;refine ax BF λx3 b8=>?_;have f7:Hid (x.grownBy x3 none):=Hq (ai a9.out b8);clear b8 BF;have n3:((fc:Int) !=0)=true:=(by rw[dY];omega);go_wp2;go_ret;rw[a7.out,a'.out];have e:(⟨d.dv,d.aI.set i p⟩:De Bg Bu)=d:=(by rw[AV Hp.out]);rw[e];exact ⟨⟨_,rfl⟩,A,Ps,aY.new R.out (by repeat(first|exact f7.out|apply aM|apply cj _ _ pu|apply aF))⟩
   |some r=>
    obtain ⟨a3,a2,aj,cu⟩:=r;obtain ⟨f1,f2,f3,f4,f5,f6⟩:=e5 a3 a2 aj cu rfl;dsimp only at BF;go_wp2_with fail;refine ax BF λx3 b8=>?_;have f7:Hid (x.grownBy x3 none):=Hq (ai a9.out b8);have H3:=Hq (H2.out.new b8);clear b8 BF l5;by_cases g1:U<p.br
    ·have a':Hid (fT C d.dv p u t b=(d.dv,p)):=Hq (by unfold fT;rw[m];dsimp only;rw[<-b4,av g1]);have c7:(x3.alloc (.cells #[.string ⟨a3.toArray⟩, .string ⟨a2.toArray⟩] 246)).cell? ⟨P.pe,7,none⟩=some (.int .i64 p.br):=ab.cell (H3.out.new (aT x3 _ none)).pe.pe 7;clear m b4;have l':decide ((U:Int)<(p.br:Int))=true:=pp;go_wp2;go_ret;rw[a7.out,a'.out];have e:(⟨d.dv,d.aI.set i p⟩:De Bg Bu)=d:=(by rw[AV Hp.out]);rw[e];exact ⟨⟨_,rfl⟩,A,Ps,aY.new R.out (by repeat(first|exact f7.out|apply aM|apply cj _ _ pu|apply aF))⟩
    have m0:decide (U<p.br)=false:=pp;have a':=Hq (Jh C d.dv p u t b m (by rw[<-b4];exact g1));rw[<-b4]at a' f6;have l0:=Hq (Jb k8 k6 f6 f3 f4 f1 f2);have j5:x3.grownBy (x3.alloc (.cells #[.string ⟨a3.toArray⟩, .string ⟨a2.toArray⟩] 246)) none:=aT x3 _ none;have a8:=H3.out.new j5;have c5:(x3.alloc (.cells #[.string ⟨a3.toArray⟩, .string ⟨a2.toArray⟩] 246)).cell? ⟨P.pe,5,none⟩=some (.int .u32 p.at_):=ab.cell a8.pe.pe 5;have c6:(x3.alloc (.cells #[.string ⟨a3.toArray⟩, .string ⟨a2.toArray⟩] 246)).cell? ⟨P.pe,6,none⟩=some (.int .i64 p.dj):=ab.cell a8.pe.pe 6;have c7:(x3.alloc (.cells #[.string ⟨a3.toArray⟩, .string ⟨a2.toArray⟩] 246)).cell? ⟨P.pe,7,none⟩=some (.int .i64 p.br):=ab.cell a8.pe.pe 7;have q5:=ab.frozen a8.pe.pe 5;have q6:=ab.frozen a8.pe.pe 6;have q7:=ab.frozen a8.pe.pe 7;have l7:max (p.br:Int) (U:Int)=((max p.br U:Nat):Int):=pm;have c':ab (x3.alloc (.cells #[.string ⟨a3.toArray⟩, .string ⟨a2.toArray⟩] 246)) x3.heap.size 246 [.string ⟨a3.toArray⟩, .string ⟨a2.toArray⟩]:=ab.new x3 _ _;have h8:=((a8.put (p':={p with dj:=aj}) 6 (.int .i64 aj) rfl rfl rfl rfl rfl rfl rfl).put (p':={p with dj:=aj,br:=max p.br U}) 7 (.int .i64 (max p.br U:Nat)) rfl rfl rfl rfl rfl rfl rfl).put (p':={p with dj:=aj,br:=max p.br U,at_:=u}) 5 (.int .u32 u) rfl rfl rfl rfl rfl rfl rfl;have j9:¬P.pe=x3.heap.size:=λe=>by have:=H3.out.pe.pe.lt;omega
    have i6:=aw (aw (aw (ak (x3.alloc (.cells #[.string ⟨a3.toArray⟩, .string ⟨a2.toArray⟩] 246)) (some P.pe)) 6 (.int .i64 aj)) 7 (.int .i64 (max p.br U:Nat))) 5 (.int .u32 u);have j8:=c'.kept i6 (λe=>j9 (aH e).symm);have a0:=Hq h8;have c2:=Hq j8;have h7:Hid (∀c∈P.fp,c<x2.heap.size):=Hq λc I=>(H2.out.pe.kinds c I).2;clear j5 a8 c' h8 i6 j8 m b4 e5 H3 g1;go_wp2_with fail;obtain ⟨y8,k7⟩:=kq ((((x3.alloc (.cells #[.string ⟨a3.toArray⟩, .string ⟨a2.toArray⟩] 246)).setCell ⟨P.pe,6,none⟩ (.int .i64 aj)).setCell ⟨P.pe,7,none⟩ (.int .i64 (max p.br U:Nat))).setCell ⟨P.pe,5,none⟩ (.int .u32 u));rw[<-k7]at a0 c2⊢;clear k7 c5 c6 c7 q5 q6 q7 l7 j9 m0;obtain ⟨gk,j7⟩:=kq x3.heap.size;rw[<-j7]at c2⊢;clear j7;have l4:=a0;obtain ⟨p8,e9⟩:=kq ({p with dj:=aj,br:=max p.br U,at_:=u}:Pe Bg);rw[<-e9]at a0;have l1:=Hq e9;have g9:Hid (p8.dp=p.dp):=Hq (by rw[e9]);obtain ⟨oS,j'⟩:∃oS:Option Addr,dO (P.aL.map SA.se)= .pointer oS:=⟨_,rfl⟩;have h6:=Hq j';have b5:Hid (A.dev∉(some P.pe).toList):=Hq (by simp;intro e;have k1:=a0.out.dv.dv.kind;rw[e,a0.out.pe.pe.kind]at k1;exact absurd (aH k1) ut)
    have k':Hid (gk∉(some P.pe).toList):=Hq (by simp;intro e;have k1:=c2.out.kind;rw[e,a0.out.pe.pe.kind]at k1;exact absurd (aH k1) ut)
    have d9:Hid (P.pe<y8.heap.size):=Hq a0.out.pe.pe.lt;have k9:Hid (∀c∈P.fp,c<y8.heap.size):=Hq λc I=>fW (h7.out c I) a0.out.only.size;have h5:=c2;obtain ⟨sN,g4⟩:=kq (⟨U,p.dp,cu,a3,a2,d.dv.now,0,true,0,0⟩:Se);have hm:=λW:World=>LG W U f6 a3 a2 f1 f2 d.dv.now dk.now true p.dp cu;rw[<-g4]at hm;unfold S at hm;have HM:=Hq hm;have l2:Hid (zn A P p8 sN y8.heap.size false false y8):=Hq ⟨λ_=>by exact a0.out.pe.pe,λe=>by cases e⟩;have l3:=Hq g4;clear hm g4 h7 c2 e9 j';have d7:eF 25 21 24 (λx y=>x.grownBy y (some P.pe)) (zn A P p8 sN y8.heap.size) [(18,λrr zz=>(λv z=>∃a:SA,v= .pointer (some ⟨a.se,0,none⟩)/\dN z a sN/\∀b∈a.fp,y8.heap.size<=b) rr.v zz)]:=⟨λx y g=>XX g,λx y z g k=>ai g k,λ_ _ _ _ h g=>h.new g,⟨λ_ ⟨_,v⟩ x y h g=>h.imp λa ha=>⟨ha.1,ha.2.1.only (aC.new g []) pu,ha.2.2⟩,True.intro⟩,λ_=>⟨λ_ ⟨_,v⟩ x y h g=>h.imp λa ha=>⟨ha.1,ha.2.1.only (aC.grown g) (λb J hm=>by simp at hm;have:=ha.2.2 b J;have:=d9.out;omega),ha.2.2⟩,True.intro⟩,λ_=>⟨λ_ ⟨_,v⟩ x y h g=>h.imp λa ha=>⟨ha.1,ha.2.1.only (aC.grown g) (λb J hm=>by simp at hm;have:=ha.2.2 b J;have:=d9.out;omega),ha.2.2⟩,True.intro⟩,qr⟩;apply gT d7 qr qr (l2.out);intro u0
    iterate 6 (apply aX;rfl;(intro b1 b2 q a4 a5 a6 a1 hq f m;first|(go_simp;exact aq)|(have z9:q.cell? ⟨A.dev,9,none⟩=some (.int .i64 d.dv.now):=(ab.cell ((aC.grown f).bu a0.out.dv.dv b5.out) 9);go_simp;exact aq));simp only[aA])
    apply aX;rfl
    ·intro b1 b2 q a4 a5 a6 a1 hq f m;obtain rfl:=a1 (Or.inr qr);have z0:q.cell? ⟨P.pe,18,none⟩=some (.pointer oS):=by have e:=ab.cell (m.1 rfl) 18;rw[e,<-h6.out];rfl
     go_simp
     exact aq
    simp only[aA];apply aX;rfl;·(intro b1 b2 q a4 a5 a6 a1 hq f m;first|(go_simp;exact aq)|(have z9:q.cell? ⟨A.dev,9,none⟩=some (.int .i64 d.dv.now):=(ab.cell ((aC.grown f).bu a0.out.dv.dv b5.out) 9);go_simp;exact aq))
    simp only[aA];apply aX;rfl
    ·intro b1 b2 q a4 a5 a6 a1 hq f m;have I:=(aC.grown f).bu h5.out k'.out;have k0:=ab.cell I 0;have k1:=ab.cell I 1
     go_simp
     exact aq
    simp only[aA];iterate 7 (apply aX;rfl;(intro b1 b2 q a4 a5 a6 a1 hq f m;first|(go_simp;exact aq)|(have z9:q.cell? ⟨A.dev,9,none⟩=some (.int .i64 d.dv.now):=(ab.cell ((aC.grown f).bu a0.out.dv.dv b5.out) 9);go_simp;exact aq));simp only[aA])
    apply aX;rfl
    ·intro b1 b2 q a4 a5 a6 a1 hq f m;have z0:q.cell? ⟨P.pe,15,none⟩=some (.int .u32 p.dp):=by
      cases b2 with
      |false=>rw[<-g9.out];exact ab.cell (m.1 rfl) 15
      |true=>obtain ⟨a,_,_,J⟩:=m.2 rfl;rw[<-g9.out];exact ab.cell J 15
     go_simp
     exact aq
    simp only[aA];apply aX;rfl;·(intro b1 b2 q a4 a5 a6 a1 hq f m;first|(go_simp;exact aq)|(have z9:q.cell? ⟨A.dev,9,none⟩=some (.int .i64 d.dv.now):=(ab.cell ((aC.grown f).bu a0.out.dv.dv b5.out) 9);go_simp;exact aq))
    simp only[aA];apply jy d7 (λrr=>rr.v) 0 rfl ut
    ·intro b1 b2 q a4 a5 a6 a1 hq f m;have B:=HM.out q
     go_simp
     refine B.mono ?_;rintro e y ⟨a,rfl,g3,l8,e8⟩;exact gp ⟨0, .pointer (some ⟨a.se,0,none⟩)⟩ l8 ⟨a,rfl,g3,λb J=>bJ f.size (e8 b J)⟩
    simp only[aA];iterate 2 (apply aX;rfl;(intro b1 b2 q a4 a5 a6 a1 hq f m;first|(go_simp;exact aq)|(have z9:q.cell? ⟨A.dev,9,none⟩=some (.int .i64 d.dv.now):=(ab.cell ((aC.grown f).bu a0.out.dv.dv b5.out) 9);go_simp;exact aq));simp only[aA])
    apply pn d7 qr
    ·intro b1 b2 q a4 a5 a6 a1 hq f m;obtain rfl:=a5 (Or.inl rfl);obtain rfl:=a1 (Or.inr qr);have J:=m.1 rfl;have n7:q.cell? ⟨P.pe,17,none⟩=some (dO (P.aN.map SA.se)):=ab.cell J 17;have o1:=ab.frozen J 17
     go_simp
     exact gw (aw (ak _ _) 17 _) ⟨λ_=>by rw[h6.out];exact J.set 17 _,λe=>by cases e⟩
    simp only[aA];iterate 2 (apply aX;rfl;(intro b1 b2 q a4 a5 a6 a1 hq f m;first|(go_simp;exact aq)|(have z9:q.cell? ⟨A.dev,9,none⟩=some (.int .i64 d.dv.now):=(ab.cell ((aC.grown f).bu a0.out.dv.dv b5.out) 9);go_simp;exact aq));simp only[aA])
    apply PD d7 qr
    ·intro b1 b2 q a4 a5 a6 a1 hq f m;have g7:=hq.at (k:=0) (j:=18) rfl qr;generalize (u0 18).v=m7 at*;obtain rfl:=a4 qr;obtain rfl:=a1 (Or.inl rfl);obtain ⟨a,l6,g3,e8⟩:=g7;subst l6;have J:=m.1 rfl;have n8:q.cell? ⟨P.pe,18,none⟩=some (dO (P.aL.map SA.se)):=ab.cell J 18;have o2:=ab.frozen J 18;have m1:dN (q.setCell ⟨P.pe,18,none⟩ (.pointer (some ⟨a.se,0,none⟩))) a sN:=g3.only (aC.grown (aw (ak q (some P.pe)) 18 _)) (λb J hm=>by simp at hm;have:=e8 b J;have:=d9.out;omega)
     go_simp
     exact gw (aw (ak _ _) 18 _) ⟨λe=>(by cases e),λ_=>⟨a,m1,e8,J.set 18 _⟩⟩
    simp only[aA];refine pz ?_;intro q f hR hq;have g7:=hq.at (k:=0) (j:=18) rfl;generalize (u0 18).v=m7 at*;obtain ⟨a,j0,c',b7⟩:=hR.2 rfl;have m3:q.cell? ⟨P.pe,14,none⟩=some (dO P.begun):=ab.cell b7 14;have m4:q.cell? ⟨P.pe,19,none⟩=some (dO (P.next.map SA.se)):=ab.cell b7 19;have m5:=ab.frozen b7 14;have m6:=ab.frozen b7 19;have i0:=Hq j0;have d8:=Hq c';have g8:=Hq b7;have h0:=Hq f;clear j0 c' f b7 hR HM h5 g7;go_wp2_with fail;obtain ⟨yw,g5⟩:=kq ((q.setCell ⟨P.pe,19,none⟩ (.pointer none)).setCell ⟨P.pe,14,none⟩ (.pointer none));rw[<-g5];obtain ⟨PW,e0⟩:=kq ({P with begun:=none,aN:=P.aL,aL:=some a,next:=none}:PA);obtain ⟨pw,b3⟩:=kq ({p with dj:=aj,br:=max p.br U,at_:=u,aN:=p.aL,aL:=some sN,next:=none,begun:=none}:Pe Bg);have hW:St x2 A P yw A PW d.dv pw:=by
     have h:=a0.out;have g:=aw (aw h0.out 19 (.pointer none)) 14 (.pointer none);have g2:=aw (aw (ak q (some P.pe)) 19 (.pointer none)) 14 (.pointer none);have hB:=(g8.out.set 19 (.pointer none)).set 14 (.pointer none);have l9:∀c∈P.fp,c<y8.heap.size:=λc I=>(k9.out c I);have d0:dN ((q.setCell ⟨P.pe,19,none⟩ (.pointer none)).setCell ⟨P.pe,14,none⟩ (.pointer none)) a sN:=i0.out.only (aC.grown g2) (λb J hm=>by simp at hm;have:=d8.out b J;have:=d9.out;omega);rw[g5,e0,b3];rw[l1.out]at h hB;refine h.L9 (P':={P with begun:=none,aN:=P.aL,aL:=some a,next:=none}) (p':={p with dj:=aj,br:=max p.br U,at_:=u,aN:=p.aL,aL:=some sN,next:=none,begun:=none}) g hB rfl rfl rfl h.pe.waits True.intro h.pe.aL d0 True.intro ?_ (λc I=>by simp[dX]at I) (λc I=>by simp[dX]at I) ?_
     ·intro c I hm;have h1:=d8.out c I;have h2:=l9 c (by simp only[PA.fp,bG];exact Or.inl (Or.inr hm));omega
     intro c I;simp only[PA.fp,Option.toList,dX,ev,bG,bp,dD,dH]at I;rcases I with((I|I)|I)|I
     ·left;simp only[PA.fp,bG,bp,dD,dH];exact Or.inl (Or.inl (Or.inl (Or.inl (Or.inl I))))
     ·left;simp only[PA.fp,bG];exact Or.inl (Or.inl (Or.inl (Or.inl (Or.inr I))))
     ·left;simp only[PA.fp,bG];exact Or.inl (Or.inr I)
     exact Or.inr (Or.inr (Or.inr (bJ l4.out.only.size (d8.out c I))))
    have i1:=Hq hW;have i2:Hid (PW.waits=P.waits):=Hq (by rw[e0]);have i9:P.pe=PW.pe:=(by rw[e0]);rw[i9];have h9:Hid (({pw with tm:=pw.tm.made}:Pe Bg)=rH d.dv p u U aj cu a3 a2):=Hq (by rw[b3,l3.out];rfl);clear g5 e0 b3 i9 hW m3 m4 m5 m6 i0 d8 g8 h0;refine fe 8 qr qr ?_;iterate 8 (apply rn;(intro m8 e7;first|(go_simp;exact aq)|(have c0:=i1.out.new e7;have n9:=ab.cell c0.pe.pe;have c1:=ab.cell c0.dv.dv;go_simp;exact aq));simp only[aA])
    refine rz ?_;intro m8 e7;have c0:=i1.out.new e7;have f0:=(MO _ PW.tm _ d.dv.now c0.pe.tm dk.now);unfold kB at f0;have i4:=Hq c0;clear c0 e7;go_wp2_with fail;refine f0.mono ?_;rintro e e' ⟨rfl,j1,j4⟩;have i3:=Hq (i4.out.timer (t:=pw.tm.made) j1 j4);clear j1 j4 i4 f0;obtain ⟨d2,c9⟩:=kq d.dv;obtain ⟨p2,b'⟩:=kq (rH d.dv p u U aj cu a3 a2:Pe Bg);obtain ⟨A2,i7⟩:=kq A;obtain ⟨P2,d'⟩:=kq PW;have c3:Hid (St x2 A P e' A2 P2 d2 p2):=Hq (by have e:=i3.out;rw[c9,b',i7,d'];rw[h9.out]at e;exact e)
    have i':PW.pe=P2.pe:=(by rw[d']);have d1:P2.waits=P.waits:=(by rw[d',i2.out]);have g6:cT d2.now p2:=by rw[c9,b'];exact l0.out.ok
    have f9:bq K d2:=by rw[c9];exact dk
    have d0:p2.aL≠none:=by rw[b'];exact λh=>by cases h
    have b3:p2.waits=p.waits:=(by rw[b'];rfl);rw[i'];have c4:Hid (fT C d.dv p u t b=flush C (if p.waits.isEmpty then du C d2 p2 []else(d2,p2)).1 (if p.waits.isEmpty then du C d2 p2 []else(d2,p2)).2):=Hq (by rw[c9,b'];exact a'.out);clear i3 h9 c9 b' i7 d' i' i2 a';obtain ⟨a,c8,k5⟩:∃a c8,P2.waits= .slice a p.waits.length c8:=by
     rcases c3.out.pe.waits.2with⟨e,e2⟩|⟨g,o,c8,m',e,_,e3,e4,_⟩
     ·exact ⟨none,0,by rw[<-b3,e,e2]⟩
     exact ⟨_,c8,by rw[<-b3];exact e⟩
    have i5:e'.cell? ⟨P2.pe,13,none⟩=some (.slice a p.waits.length c8):=by rw[<-k5];exact ab.cell c3.out.pe.pe 13
    clear k5 d1 b3;cases hw:p.waits.isEmpty with
    |true=>have d1:p.waits.length=0:=(by rw[List.isEmpty_iff.1 hw];rfl);rw[hw]at c4;rw[d1]at i5;clear hw d1;have B:=CZ C hC x2 e' A A2 P P2 d2 p2 c3.out g6 K f9 d0 [] pu;unfold ir ptr S at B;go_wp2_with fail;refine B.mono ?_;rintro e y2 ⟨rfl,A3,P3,h3⟩;obtain ⟨k1,k2,k3,k4⟩:=tu C hC g6 f9 pm [];have m2:(du C d2 p2 []).2.aL≠none:=k4.aL.2 d0;have f8:Hid (fT C d.dv p u t b=flush C (du C d2 p2 []).1 (du C d2 p2 []).2):=Hq c4.out;generalize (du C d2 p2 []).1=d3 at*;generalize (du C d2 p2 []).2=p3 at*;have h':=Hq h3;clear h3 B i5 c4 k3 k4;have i8:P2.pe=P3.pe:=(by rw[h'.out.e6,<-c3.out.e6]);rw[i8];clear i8;have B:=Gy C hC x2 y2 A A3 P P3 d3 p3 h'.out k1 (K+1) k2 pm m2;unfold ir ptr at B;go_wp2_with fail;refine B.mono ?_;rintro e yd ⟨rfl,A4,P4,h4⟩;have HH:=Hq h4;clear h4 B;go_wp2;go_ret;rw[a7.out];exact ⟨⟨_,rfl⟩,_,_,(aY.new R.out a9.out).trans (aY.peer (R.out.new a9.out) HP.out Hp.out (by rw[f8.out];exact HH.out))⟩
    |false=>
     have d1:((p.waits.length:Int)==0)=false:=by
      rw[dC];cases e:p.waits with
      |nil=>rw[e]at hw;cases hw
      |cons a l=>simp;omega
     rw[hw]at c4;clear hw;have f8:Hid (fT C d.dv p u t b=flush C d2 p2):=Hq c4.out;have B:=Gy C hC x2 e' A A2 P P2 d2 p2 c3.out g6 K f9 pm d0;unfold ir ptr at B;go_wp2_with fail;refine B.mono ?_;rintro e yd ⟨rfl,A4,P4,h4⟩;have HH:=Hq h4;clear h4 B;go_wp2;go_ret;rw[a7.out];exact ⟨⟨_,rfl⟩,_,_,(aY.new R.out a9.out).trans (aY.peer (R.out.new a9.out) HP.out Hp.out (by rw[f8.out];exact HH.out))⟩
def YS:(prog.info? 9).map (λi=>(i.zero,i.size,i.bytes))=some (some (.string ⟨#[]⟩),1,16):=qr
def Te {t:TypeId}{a:Value}(h:ab w g t [a]):∀(j:Nat) (u:Value),[a][j]?=some u->w.cell? ((⟨g,0,none⟩:Addr).add j)=some u:=λj u b=>by rw[qY,h.cell,ef];exact b
def Qh w v (l:List af)(h:kT w v l)(t:af)(b:Nat)(o:ab w b 9 [S t])(z:l.length<=1000000000):
 ∃a c,(Builtin.append_ #[22,22] 22 #[v, .slice (some ⟨b,0,none⟩) 1 1]).run prog w= .ok a c/\kT c a (l++[t])/\w.grownBy c v.ownBlock/\(a.ownBlock=v.ownBlock\/a.ownBlock=some w.heap.size)/\kT c v l:=by
 obtain ⟨u,p,q,r,s⟩:=mF YS;obtain ⟨a,c,d,f,j,k,m⟩:=wE w 22 22 9 u _ 1 16 underlying22 p q r s rfl pm v l.length (l.map S) h ⟨b,0,none⟩ 1 1 [S t] rfl (Te o) (by simp[Value.oneCell',S]) pm (by unfold maxLen;omega) pm;refine ⟨a,c,d,?_,j,k,m⟩;unfold kT;rw[aK,jW];exact f
def I4 {o b:Nat}(h:aZ w e 1 (.slice (some ⟨g,o,none⟩) n b) n xs)(z:1<=n):aZ w e 1 (.slice (some ⟨g,o+1,none⟩) (n-1) (b-1)) (n-1) (xs.drop 1):=by
 obtain ⟨m,j⟩:=h;refine ⟨by rw[aR,m];omega,?_⟩;rcases j with⟨a,_⟩|⟨s,C,p,c,a,l,t,u,v,k⟩
 ·cases a
 injection a with a q d;injection a with a;injection a with a f r;subst a f d;refine Or.inr ⟨g,o+1,b-1,c,rfl,l,pm,pm,pm,?_⟩;rw[<-k,List.drop_take,vx];congr 1;omega
def St.Qe {x0}{o A:DA}{q P:PA}{d:Dv Bu}{p:Pe Bg}(h:St x0 o q x A P d p)(g:x.grownBy y P.waits.ownBlock)(v:kT y P.waits p.waits):St x0 o q y A P d p:=by
 have j:aC x y P.waits.ownBlock.toList:=aC.grown g;have u:∀b∈P.waits.ownBlock.toList,cD x b=some 9:=λb c=>(h.pe.waits.kind b (by simpa using c)).1;have f:∀(b:Nat) (t:TypeId),cD x b=some t->t≠9->b∉P.waits.ownBlock.toList:=λb t c r hm=>by rw[u b hm]at c;exact r (aH c).symm
 have m:∀k,fL y (P.slot k) (p.slot k):=λk=>(h.pe.slot k).only j (λb c=>by
  have:=h.pe.slot k;cases e:P.slot k with
  |none=>rw[e]at c;simp[dX]at c
  |some a=>cases e2:p.slot k with
   |none=>rw[e,e2]at this;exact this.elim
   |some s=>
    rw[e,e2]at this;rw[e]at c;simp only[dX,SA.fp,bp,dD,dH]at c;rcases c with rfl|rfl|rfl
    ·exact f _ _ (dN.se this).kind ut
    ·exact f _ _ (dN.pr this).kind ut
    exact f _ _ (dN.wn this).kind ut)
 have c:nF y P.begun p.begun:=h.pe.begun.only j (λb c=>by
  have l:=h.pe.begun;cases e:P.begun with
  |none=>rw[e]at c;simp at c
  |some g=>
   rw[e]at l c;obtain rfl:b=g:=by simpa using c
   cases e2:p.begun with
   |none=>rw[e2]at l;exact l.elim
   |some z=>rw[e2]at l;exact f b _ (ab.kind l) ut)
 exact h.peer (P':=P) ⟨j.bu h.pe.pe (f _ _ h.pe.pe.kind ut),j.obj h.pe.tm (f _ _ h.pe.tm.kind ut),v,c,m .aN,m .aL,m .next,h.pe.a1,h.pe.a2,h.pe.a3⟩ (j.mono (λb c=>by simp only[PA.fp,bG];exact Or.inl (Or.inl (Or.inl (Or.inl (Or.inr c)))))) rfl rfl (λb c=>Or.inl c)
def St.Ja {x0}{c A:DA}{f P:PA}{d:Dv Bu}{p:Pe Bg}(h:St x0 c f x A P d p) v (l:List af)(o:kT x v l)(m:v.ownBlock=P.waits.ownBlock\/∃k,v.ownBlock=some k/\x0.heap.size<=k):St x0 c f (x.setCell ⟨P.pe,13,none⟩ v) A {P with waits:=v} d {p with waits:=l}:=
 h.write (P':={P with waits:=v}) (p':={p with waits:=l}) 13 v rfl rfl rfl rfl o h.pe.begun h.pe.aN h.pe.aL h.pe.next h.pe.a1 h.pe.a2 h.pe.a3 (λb a=>by
  simp only[PA.fp,bG,bp,dD,dH]at a⊢;rcases a with((((a|a)|a)|a)|a)|a
  ·exact Or.inl (Or.inl (Or.inl (Or.inl (Or.inl (Or.inl a)))))
  ·rcases m with e|⟨k,e,j⟩
   ·rw[e]at a;exact Or.inl (Or.inl (Or.inl (Or.inl (Or.inl (Or.inr a)))))
   rw[e]at a;obtain rfl:b=k:=by simpa using a
   exact Or.inr (Or.inr (Or.inr j))
  ·exact Or.inl (Or.inl (Or.inl (Or.inl (Or.inr a))))
  ·exact Or.inl (Or.inl (Or.inl (Or.inr a)))
  ·exact Or.inl (Or.inl (Or.inr a))
  exact Or.inl (Or.inr a))
def Kk(C:Cr Bg Hd Bu)(x:World)(A:DA)(f:List PA)(d:De Bg Bu)(a dst:Nat)(b:af)(e:Ending)(y:World):Prop:=
 e= .returned (.int .i64 ((d.send C a dst b).2:Nat))/\∃c h,aY x A f y c h (d.send C a dst b).1
def aae (C:Cr Bg Hd Bu)(d:De Bg Bu)(b dst:Nat)(a:af)(i:Nat)(p:Pe Bg)(c:¬1000<a.length)(h:d.dv.fB dst=some i)(f:d.aI[i]?=some p):
 d.send C b dst a=(⟨(iY C d.dv p (C.me b 4++a)).1,d.aI.set i (iY C d.dv p (C.me b 4++a)).2⟩,0):=by
 unfold De.send;rw[au c,h];dsimp only;unfold De.at;rw[f]
def UL (C:Cr Bg Hd Bu)(hC:bD C) x (A:DA)(Ps:List PA)(d:De Bg Bu)(h:bX x A Ps d)(K:Nat)(ok:dw K d)(hK:K+2<=100000000)(l dst:Nat)(i9:l<4294967296)(h6:dst<4294967296)(z:af)(f6:∀a n,d.dv.fB a=some n->n<d.aI.length):
 Calls prog 40 #[ptr A.dev, .int .u32 l, .int .u32 dst,S z] x (Kk C x A Ps d l dst z):=by
 unfold Kk;by_cases hl:1000<z.length
 ·have e:d.send C l dst z=(d,2):=by unfold De.send;rw[av hl]
  have hd:decide ((1000:Int)<(z.length:Int))=true:=pp
  rw[e];have H:=Hq h;clear h ok e;unfold ptr S;go_enter func40,ntmps40;go_wp2;go_ret;exact ⟨rfl,A,Ps,aY.refl H.out⟩
 have hd:decide ((1000:Int)<(z.length:Int))=false:=pp
 have g9:x.cell? ⟨A.dev,12,none⟩=some (.pointer (some ⟨A.tb,0,none⟩)):=ab.cell h.dv.dv 12;have BR:=Gz x A d.dv h.dv dst h6;have HD:=Hq h;cases hr:d.dv.fB dst with
 |none=>
  have e:d.send C l dst z=(d,13):=by unfold De.send;rw[au hl,hr]
  rw[hr]at BR;rw[e];clear h ok e hr f6;unfold ptr S;go_enter func40,ntmps40;go_wp2_with fail;refine ax BR λy u=>?_;have HG:=Hq u;clear u BR;go_wp2;go_ret;exact ⟨rfl,A,Ps,aY.new HD.out HG.out⟩
 |some i=>
  have f4:=f6 dst i hr;obtain ⟨p,hp⟩:∃p,d.aI[i]?=some p:=⟨d.aI[i],aW f4⟩;obtain ⟨P,hP⟩:=h.mN hp;have d9:=ok.pe p (dc hp);have dk:=ok.dv;obtain ⟨c,f5⟩:=kq (C.me l 4++z);have e9:c=bo l 4++z:=by rw[f5,hC.me]
  have h9:c.length<=1004:=by rw[e9,aK,fw];omega
  have e7:=Hq (aae C d l dst z i p hl hr hp);rw[<-f5]at e7;have i2:=Hq e9;have f':=Hq (JQ d9 h9);rw[hr]at BR;have h7:i<Ps.length:=by rw[h.len];exact f4
  have HP:=Hq hP;have Hp:=Hq hp;obtain ⟨L,hL⟩:=kq Ps.length;have HL:=Hq hL;rw[<-hL]at h7;have A7:∀W:World,Calls prog 70 #[.slice none 0 0, .int .u64 l, .int .i64 4] W (mH W W.heap.size (bo l 4)):=λW=>pC W W.heap.size (.slice none 0 0) [] l 4 (mO _ _) pm pm pm pu (bm _);have u1:IntKind.u64.wrap (l:Int)=(l:Int):=dE _ pm;have r1:=eD (bo l 4) z;rw[<-e9]at r1;have kl:(bo l 4).length+z.length<=9223372036854775807:=by rw[fw];omega
  clear h ok hr f4 f5 e9 hP hp hL f6;unfold ptr S;go_enter func40,ntmps40;go_wp2_with fail;refine ax BR λy u=>?_;have f3:=HD.out.new u;obtain ⟨g0,o0,g',q,h0⟩:=f3.named HP.out;rw[<-HL.out]at q;have g8:y.cell? ⟨A.dev,11,none⟩=some (.slice (some ⟨g0,o0,none⟩) L g'):=by rw[<-q];exact ab.cell f3.dv.dv 11
  have f9:=Hq u;have i3:=Hq q;clear u BR f3 q g9;simp only[Option.getD_some,Option.isSome_some];have i7:(0:Int)<=(i:Int):=pm
  have i8:(i:Int)<(L:Int):=pm
  go_wp2_with fail;refine (A7 _).mono ?_;rintro e j ⟨v,rfl,g4,hb⟩;have f2:=jL g4;unfold S at f2;have HG:Hid (x.grownBy j none):=Hq (ai f9.out (iU hb));have H2:Hid (St j A P j A P d.dv p):=Hq ((HD.out.new HG.out).start HP.out Hp.out);clear A7 hb g4 h0 g8 u1 f9;have BU:=Mn j A P d.dv p H2.out.dv H2.out.pe d9.ok dk.now;unfold ptr at BU;cases hu:pA d.dv p with
  |true=>
   rw[hu]at BU;have e8:=Hq hu;have h':=Hq (Re hu);clear hu;go_wp2_with fail;refine ax BU λs u=>?_;have H3:=Hq (H2.out.new u);clear u BU f2;have B:=CZ C hC j s A A P P d.dv p H3.out d9.ok K dk h'.out c pm;unfold ir ptr S at B;go_wp2_with fail;refine B.mono ?_;rintro e y2 ⟨rfl,A2,P2,h2⟩;obtain ⟨k1,k2,k3,k4⟩:=tu C hC d9.ok dk pm c;have c0:Hid (iY C d.dv p c=eJ C (du C d.dv p c).1 (du C d.dv p c).2):=Hq (by unfold iY;rw[e8.out];rfl);generalize (du C d.dv p c).1=m at*;generalize (du C d.dv p c).2=p2 at*;have b5:=Hq h2;have d8:=k1;obtain ⟨K2,c6⟩:=kq (K+1);have a8:bq K2 m:=by rw[c6];exact k2
   have c5:K2+1<=100000000:=pm;clear h2 B k1 k2 k3 k4;have B:=CY C hC j y2 A A2 P P2 m p2 b5.out d8 K2 a8 c5;unfold ir ptr at B;rw[b5.out.e6]at B;go_wp2_with fail;refine B.mono ?_;rintro e yd ⟨rfl,A3,P3,h3⟩;have HH:=Hq h3;clear h3 B;go_wp2;go_ret;rw[e7.out];exact ⟨rfl,_,_,(aY.new HD.out HG.out).trans (aY.peer (HD.out.new HG.out) HP.out Hp.out (by rw[c0.out];exact HH.out))⟩
  |false=>
   rw[hu]at BU;have e8:=Hq hu;clear hu;have b6:j.cell? ⟨P.pe,13,none⟩=some P.waits:=ab.cell H2.out.pe.pe 13;go_wp2_with fail;refine ax BU λs u=>?_;have H3:=Hq (H2.out.new u);clear u BU f2 b6;have g6:=d9.ok.kj;have hw:=H3.out.pe.waits;obtain ⟨a,k,q,f1,h1⟩:∃a k,P.waits= .slice a p.waits.length k/\p.waits.length<=k/\k<=maxLen:=by
    rcases hw.2with⟨e,e2⟩|⟨g,o,k,i4,e,_,e3,e4,_⟩
    ·exact ⟨none,0,by rw[e,e2],pm,pm⟩
    exact ⟨_,k,e,e3,e4⟩
   have g1:=ab.frozen H3.out.pe.pe 13;have b6:s.cell? ⟨P.pe,13,none⟩=some (.slice a p.waits.length k):=by rw[<-q];exact ab.cell H3.out.pe.pe 13
   by_cases h4:p.waits.length=4
   ·obtain ⟨g,o,cp,e0,_⟩:=aZ.at hw pm;rw[q]at e0;injection e0 with e1 e2 e3;subst e1 e3;have g5:kT s (.slice (some ⟨g,o+1,none⟩) 3 (k-1)) (p.waits.drop 1):=by have hz:=I4 (by unfold kT at hw;rw[q]at hw;exact hw) pm;unfold kT;rw[aR,List.map_drop];rw[h4]at hz⊢;exact hz
    have h5:=H3.out.Ja (.slice (some ⟨g,o+1,none⟩) 3 (k-1)) (p.waits.drop 1) g5 (Or.inl (by rw[q];rfl));obtain ⟨f,a4⟩:=kq (p.waits.drop 1);obtain ⟨b,R⟩:=kq ({P with waits:= .slice (some ⟨g,o+1,none⟩) 3 (k-1)}:PA);obtain ⟨yw,f7⟩:=kq (s.setCell ⟨P.pe,13,none⟩ (.slice (some ⟨g,o+1,none⟩) 3 (k-1)));have a0:Hid (St j A P yw A b d.dv {p with waits:=f}):=Hq (by rw[f7,R,a4];exact h5);have b9:Hid (b.pe=P.pe):=Hq (by rw[R]);have g7:Hid (b.waits= .slice (some ⟨g,o+1,none⟩) 3 (k-1)):=Hq (by rw[R]);have e':Hid (b.waits.ownBlock=P.waits.ownBlock):=Hq (by rw[R,q];rfl);have f0:Hid (pB p.waits c=f++[c]):=Hq (by unfold pB;rw[av h4,a4]);have h8:f.length<=4:=(by rw[a4,aR];omega);have i5:¬k=1:=pm;have i6:4<=k:=pm;rw[h4]at b6;have g3:decide ((4:Int)=4)=true:=rfl;clear h5 g5 hw q R a4 H3 g6 e2 h4 f1;go_upto_region 12with(fail);rw[<-f7];clear f7 b6 g1;have d7:kT yw b.waits f:=a0.out.pe.waits;have a2:yw.grownBy (yw.alloc (.cells #[S c] 9)) none:=aT _ _ _;obtain ⟨v',w',a6,b2,d0,d3,d1⟩:=Qh (yw.alloc (.cells #[S c] 9)) b.waits f (aZ.new d7 a2) c yw.heap.size (ab.new _ _ _) pm;have a1:St j A P w' A b d.dv {p with waits:=f}:=(a0.out.new a2).Qe d0 d1;have d4:j.heap.size<=(yw.alloc (.cells #[S c] 9)).heap.size:=((a0.out.new a2).only).size;obtain ⟨g2,o2,c4,d5,_⟩:=aZ.at b2 pu
    rw[aK,tD]at d5;have b4:w'.cell? ⟨b.pe,13,none⟩=some b.waits:=ab.cell a1.pe.pe 13;have d':=ab.frozen a1.pe.pe 13;have J:=a1.Ja v' (f++[c]) b2 (by
     rcases d3 with e|e
     ·left;rw[e,e'.out]
     exact Or.inr ⟨_,e,d4⟩)
    subst d5;have b0:yw.cell? ⟨b.pe,13,none⟩=some b.waits:=ab.cell a0.out.pe.pe 13;obtain ⟨vv,d6⟩:=kq b.waits;rw[<-d6]at b0 a6 b4;clear d6;have b7:=Hq J;have b8:Hid (b.pe=P.pe):=Hq b9.out;clear d7 a2 b2 d0 d3 d1 a1 d4 J;rw[b9.out]at b0 b4 d';unfold S at a6;go_wp2_with (at_builtin;go_must (refine zy 22 rfl _ _ _ _ _ w' a6 rfl rfl rfl rfl ?_));obtain ⟨I,a'⟩:=kq ({b with waits:= .slice (some ⟨g2,o2,none⟩) (f.length+1) c4}:PA);obtain ⟨pw,b1⟩:=kq ({p with waits:=pB p.waits c}:Pe Bg);obtain ⟨yx,b3⟩:=kq (w'.setCell ⟨P.pe,13,none⟩ (.slice (some ⟨g2,o2,none⟩) (f.length+1) c4));have c1:Hid (St j A P yx A I d.dv pw):=Hq (by have e:=b7.out;rw[b3,a',b1,f0.out,<-b8.out];exact e)
    have c7:P.pe=I.pe:=(by rw[a',<-b8.out]);rw[<-b3];rw[c7];have b':=Hq b1;clear b3 a' b1 c7 b7 a6 b0 b4 d';refine fe 8 qr qr ?_;iterate 8 (apply rn;(intro f8 a3;first|(go_simp;exact aq)|(have r:=c1.out.new a3;have i1:=ab.cell r.pe.pe;have i0:=ab.cell r.dv.dv;go_simp;exact aq));simp only[aA])
    refine rz ?_;intro f8 a3;have r:=c1.out.new a3;have a7:=(GR _ I.tm _ d.dv.now r.pe.tm dk.now);unfold kB at a7;have c3:=Hq r;clear r a3;go_wp2_with fail;refine a7.mono ?_;rintro e e5 ⟨rfl,c9,c'⟩;have c2:=Hq (c3.out.timer (t:=pw.tm.wanted) c9 c');clear c9 c' c3 a7;obtain ⟨m,U⟩:=kq d.dv;obtain ⟨p2,a5⟩:=kq ({p with waits:=pB p.waits c,tm:=p.tm.wanted}:Pe Bg);obtain ⟨A2,J⟩:=kq A;obtain ⟨P2,a9⟩:=kq I;have b5:Hid (St j A P e5 A2 P2 m p2):=Hq (by have e:=c2.out;rw[U,a5,J,a9];rw[b'.out]at e;exact e)
    have c8:I.pe=P2.pe:=(by rw[a9]);have d8:cT m.now p2:=by rw[U,a5];exact f'.out.ok
    have a8:bq K m:=by rw[U];exact dk
    have c0:Hid (iY C d.dv p c=eJ C m p2):=Hq (by rw[U,a5];unfold iY;rw[e8.out];rfl);obtain ⟨K2,c6⟩:=kq K;have c5:K2+1<=100000000:=pm;rw[<-c6]at a8;rw[c8];clear c2 b' U a5 J a9 c8;have B:=CY C hC j e5 A A2 P P2 m p2 b5.out d8 K2 a8 c5;unfold ir ptr at B;go_wp2_with fail;refine B.mono ?_;rintro e yd ⟨rfl,A3,P3,h3⟩;have HH:=Hq h3;clear h3 B;go_wp2;go_ret;rw[e7.out];exact ⟨rfl,_,_,(aY.new HD.out HG.out).trans (aY.peer (HD.out.new HG.out) HP.out Hp.out (by rw[c0.out];exact HH.out))⟩
   have g3:((p.waits.length:Int)==4)=false:=(by rw[dC];omega);obtain ⟨f,a4⟩:=kq p.waits;obtain ⟨b,R⟩:=kq (P:PA);have a0:Hid (St j A P s A b d.dv {p with waits:=f}):=Hq (by rw[R,a4];exact H3.out);have b9:Hid (b.pe=P.pe):=Hq (by rw[R]);obtain ⟨n,hn⟩:=kq p.waits.length;rw[<-hn]at b6 q g3 f1;have g7:Hid (b.waits= .slice a n k):=Hq (by rw[R,q]);have e':Hid (b.waits.ownBlock=P.waits.ownBlock):=Hq (by rw[R]);have f0:Hid (pB p.waits c=f++[c]):=Hq (by unfold pB;rw[au h4,a4]);have h8:f.length<=4:=(by rw[a4];omega);clear hw q R a4 H3 g6 h4 hn f1 h1;go_upto_region 12with(fail);clear b6 g1;have d7:kT s b.waits f:=a0.out.pe.waits;have a2:s.grownBy (s.alloc (.cells #[S c] 9)) none:=aT _ _ _;obtain ⟨v',w',a6,b2,d0,d3,d1⟩:=Qh (s.alloc (.cells #[S c] 9)) b.waits f (aZ.new d7 a2) c s.heap.size (ab.new _ _ _) pm;have a1:St j A P w' A b d.dv {p with waits:=f}:=(a0.out.new a2).Qe d0 d1;have d4:j.heap.size<=(s.alloc (.cells #[S c] 9)).heap.size:=((a0.out.new a2).only).size;obtain ⟨g2,o2,c4,d5,_⟩:=aZ.at b2 pu;rw[aK,tD]at d5;have b4:w'.cell? ⟨b.pe,13,none⟩=some b.waits:=ab.cell a1.pe.pe 13;have d':=ab.frozen a1.pe.pe 13;have J:=a1.Ja v' (f++[c]) b2 (by
    rcases d3 with e|e
    ·left;rw[e,e'.out]
    exact Or.inr ⟨_,e,d4⟩)
   subst d5;have b0:s.cell? ⟨b.pe,13,none⟩=some b.waits:=ab.cell a0.out.pe.pe 13;obtain ⟨vv,d6⟩:=kq b.waits;rw[<-d6]at b0 a6 b4;clear d6;have b7:=Hq J;have b8:Hid (b.pe=P.pe):=Hq b9.out;clear d7 a2 b2 d0 d3 d1 a1 d4 J;rw[b9.out]at b0 b4 d';unfold S at a6;go_wp2_with (at_builtin;go_must (refine zy 22 rfl _ _ _ _ _ w' a6 rfl rfl rfl rfl ?_));obtain ⟨I,a'⟩:=kq ({b with waits:= .slice (some ⟨g2,o2,none⟩) (f.length+1) c4}:PA);obtain ⟨pw,b1⟩:=kq ({p with waits:=pB p.waits c}:Pe Bg);obtain ⟨yx,b3⟩:=kq (w'.setCell ⟨P.pe,13,none⟩ (.slice (some ⟨g2,o2,none⟩) (f.length+1) c4));have c1:Hid (St j A P yx A I d.dv pw):=Hq (by have e:=b7.out;rw[b3,a',b1,f0.out,<-b8.out];exact e)
   have c7:P.pe=I.pe:=(by rw[a',<-b8.out]);rw[<-b3];rw[c7];have b':=Hq b1;clear b3 a' b1 c7 b7 a6 b0 b4 d';refine fe 8 qr qr ?_;iterate 8 (apply rn;(intro f8 a3;first|(go_simp;exact aq)|(have r:=c1.out.new a3;have i1:=ab.cell r.pe.pe;have i0:=ab.cell r.dv.dv;go_simp;exact aq));simp only[aA])
   refine rz ?_;intro f8 a3;have r:=c1.out.new a3;have a7:=(GR _ I.tm _ d.dv.now r.pe.tm dk.now);unfold kB at a7;have c3:=Hq r;clear r a3;go_wp2_with fail;refine a7.mono ?_;rintro e e5 ⟨rfl,c9,c'⟩;have c2:=Hq (c3.out.timer (t:=pw.tm.wanted) c9 c');clear c9 c' c3 a7;obtain ⟨m,U⟩:=kq d.dv;obtain ⟨p2,a5⟩:=kq ({p with waits:=pB p.waits c,tm:=p.tm.wanted}:Pe Bg);obtain ⟨A2,J⟩:=kq A;obtain ⟨P2,a9⟩:=kq I;have b5:Hid (St j A P e5 A2 P2 m p2):=Hq (by have e:=c2.out;rw[U,a5,J,a9];rw[b'.out]at e;exact e)
   have c8:I.pe=P2.pe:=(by rw[a9]);have d8:cT m.now p2:=by rw[U,a5];exact f'.out.ok
   have a8:bq K m:=by rw[U];exact dk
   have c0:Hid (iY C d.dv p c=eJ C m p2):=Hq (by rw[U,a5];unfold iY;rw[e8.out];rfl);obtain ⟨K2,c6⟩:=kq K;have c5:K2+1<=100000000:=pm;rw[<-c6]at a8;rw[c8];clear c2 b' U a5 J a9 c8;have B:=CY C hC j e5 A A2 P P2 m p2 b5.out d8 K2 a8 c5;unfold ir ptr at B;go_wp2_with fail;refine B.mono ?_;rintro e yd ⟨rfl,A3,P3,h3⟩;have HH:=Hq h3;clear h3 B;go_wp2;go_ret;rw[e7.out];exact ⟨rfl,_,_,(aY.new HD.out HG.out).trans (aY.peer (HD.out.new HG.out) HP.out Hp.out (by rw[c0.out];exact HH.out))⟩
end
end Go.Proofs.YtmomfbkpniblgaaGreatDoor
