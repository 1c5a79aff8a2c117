/- A part of this claim's proof. -/
import Derived.Laws.EntriesVeiled
import Derived.Test.YtmomfbkpniblgaaGreatDoorYj36
import Derived.BigRegion
import Derived.WalkKit
import Derived.Deep.RegionLaw
import Derived.Lib.SliceRun
set_option linter.all false
set_option maxHeartbeats 32000000
set_option maxRecDepth 20000
namespace Go.Proofs.YtmomfbkpniblgaaGreatDoor
open Go.Proofs.Tryz
variable {Q:Exit->Act->World->Prop}{n:Int}{G:Ln}{B B0 D aj here i j m tb:Nat}{P:Program}{v:Value}{a w w' wq x y z:World}
section
open Go.RowKit Top
abbrev Ni:TypeId:=196
def Dn (k:Nat)(w:World):(binOp .eql Ni (.func (.func k) #[] #[]) Value.nilFunc).run prog w= .ok (.bool false) w:=qr
def XH (w:World):(binOp .eql Ni Value.nilFunc Value.nilFunc).run prog w= .ok (.bool true) w:=qr
def UD x (A:DA)(b:Nat):Calls prog 76 #[ptr A.dev, .int .u32 b,S []] x (λe y=>e= .returned (.int .i64 4)/\x=y):=by unfold ptr S;go_enter func76,ntmps76;go_wp2;go_ret;exact ⟨rfl,rfl⟩
def UE x (A:DA)(g:Nat)(c:UInt8)(r:af)(k:5<=c.toNat):Calls prog 76 #[ptr A.dev, .int .u32 g,S (c::r)] x (λe y=>e= .returned (.int .i64 5)/\x.grownBy y none):=by
 obtain ⟨s,b⟩:=kq (c::r);have q:List.isEmpty s=false:=by rw[b];rfl
 have f:0<s.length:=by rw[b];simp
 have h:∀d,((ByteArray.mk s.toArray)[0]'d).toNat=c.toNat:=λd=>by have e:(ByteArray.mk s.toArray)[0]'d=s[0]'f:=rfl;rw[e];subst b;rfl
 have u:(0:Int)<(s.length:Int):=pm
 have l:decide ((5:Int)<=(c.toNat:Int))=true:=pp
 have o:(5:Int)<=(c.toNat:Int):=pm
 have t:wrap64 (c.toNat:Int)=(c.toNat:Int):=by have:=c.toNat_lt;unfold wrap64;omega
 rw[<-b];clear b;generalize c.toNat=n at*;unfold ptr S;go_enter func76,ntmps76;go_wp2;go_ret;exact ⟨rfl,by repeat(first|exact ak _ _|apply aM|apply cj _ _ pu|apply aF)⟩
def UF x (A:DA)(f:Nat)(r:af):Calls prog 76 #[ptr A.dev, .int .u32 f,S (0::r)] x (λe y=>e= .returned (.int .i64 5)/\x.grownBy y none):=by
 obtain ⟨s,b⟩:=kq ((0:UInt8)::r);have k:List.isEmpty s=false:=by rw[b];rfl
 have d:0<s.length:=by rw[b];simp
 have h:∀c,((ByteArray.mk s.toArray)[0]'c).toNat=0:=λc=>by have e:(ByteArray.mk s.toArray)[0]'c=s[0]'d:=rfl;rw[e];subst b;rfl
 have l:(0:Int)<(s.length:Int):=pm
 have g:=XH;rw[<-b];clear b;unfold ptr S;go_enter func76,ntmps76;go_wp2;go_ret;exact ⟨rfl,by repeat(first|exact ak _ _|apply aM|apply cj _ _ pu|apply aF)⟩
def Uz (x:World)(A:DA)(g:Nat)(r:af)(Q:Ending->World->Prop)(B:∀y:World,x.grownBy y none->Calls prog 122 #[ptr A.dev, .int .u32 g,S (1::r)] y (λe z=>(∃c:Int,e= .returned (.int .i64 c))/\Q e z)):
 Calls prog 76 #[ptr A.dev, .int .u32 g,S (1::r)] x Q:=by
 obtain ⟨s,b⟩:=kq ((1:UInt8)::r);have q:List.isEmpty s=false:=by rw[b];rfl
 have k:0<s.length:=by rw[b];simp
 have o:∀d,((ByteArray.mk s.toArray)[0]'d).toNat=1:=λd=>by have e:(ByteArray.mk s.toArray)[0]'d=s[0]'k:=rfl;rw[e];subst b;rfl
 have t:(0:Int)<(s.length:Int):=pm
 have l:=Dn 122;rw[<-b]at B⊢;clear b;unfold ptr S at*;go_enter func76,ntmps76;go_wp2_with fail;refine (B _ (by repeat(first|exact ak _ _|apply aM|apply cj _ _ pu|apply aF))).mono ?_;rintro e z ⟨⟨c,rfl⟩,f⟩;have h:=Hq f;clear f B;go_wp2_with fail;exact h.out
def UA (x:World)(A:DA)(g:Nat)(r:af)(Q:Ending->World->Prop)(B:∀y:World,x.grownBy y none->Calls prog 123 #[ptr A.dev, .int .u32 g,S (2::r)] y (λe z=>(∃c:Int,e= .returned (.int .i64 c))/\Q e z)):
 Calls prog 76 #[ptr A.dev, .int .u32 g,S (2::r)] x Q:=by
 obtain ⟨s,b⟩:=kq ((2:UInt8)::r);have q:List.isEmpty s=false:=by rw[b];rfl
 have k:0<s.length:=by rw[b];simp
 have o:∀d,((ByteArray.mk s.toArray)[0]'d).toNat=2:=λd=>by have e:(ByteArray.mk s.toArray)[0]'d=s[0]'k:=rfl;rw[e];subst b;rfl
 have t:(0:Int)<(s.length:Int):=pm
 have l:=Dn 123;rw[<-b]at B⊢;clear b;unfold ptr S at*;go_enter func76,ntmps76;go_wp2_with fail;refine (B _ (by repeat(first|exact ak _ _|apply aM|apply cj _ _ pu|apply aF))).mono ?_;rintro e z ⟨⟨c,rfl⟩,f⟩;have h:=Hq f;clear f B;go_wp2_with fail;exact h.out
def UB (x:World)(A:DA)(g:Nat)(r:af)(Q:Ending->World->Prop)(B:∀y:World,x.grownBy y none->Calls prog 124 #[ptr A.dev, .int .u32 g,S (3::r)] y (λe z=>(∃c:Int,e= .returned (.int .i64 c))/\Q e z)):
 Calls prog 76 #[ptr A.dev, .int .u32 g,S (3::r)] x Q:=by
 obtain ⟨s,b⟩:=kq ((3:UInt8)::r);have q:List.isEmpty s=false:=by rw[b];rfl
 have k:0<s.length:=by rw[b];simp
 have o:∀d,((ByteArray.mk s.toArray)[0]'d).toNat=3:=λd=>by have e:(ByteArray.mk s.toArray)[0]'d=s[0]'k:=rfl;rw[e];subst b;rfl
 have t:(0:Int)<(s.length:Int):=pm
 have l:=Dn 124;rw[<-b]at B⊢;clear b;unfold ptr S at*;go_enter func76,ntmps76;go_wp2_with fail;refine (B _ (by repeat(first|exact ak _ _|apply aM|apply cj _ _ pu|apply aF))).mono ?_;rintro e z ⟨⟨c,rfl⟩,f⟩;have h:=Hq f;clear f B;go_wp2_with fail;exact h.out
def UC (x:World)(A:DA)(g:Nat)(r:af)(Q:Ending->World->Prop)(B:∀y:World,x.grownBy y none->Calls prog 125 #[ptr A.dev, .int .u32 g,S (4::r)] y (λe z=>(∃c:Int,e= .returned (.int .i64 c))/\Q e z)):
 Calls prog 76 #[ptr A.dev, .int .u32 g,S (4::r)] x Q:=by
 obtain ⟨s,b⟩:=kq ((4:UInt8)::r);have q:List.isEmpty s=false:=by rw[b];rfl
 have k:0<s.length:=by rw[b];simp
 have o:∀d,((ByteArray.mk s.toArray)[0]'d).toNat=4:=λd=>by have e:(ByteArray.mk s.toArray)[0]'d=s[0]'k:=rfl;rw[e];subst b;rfl
 have t:(0:Int)<(s.length:Int):=pm
 have l:=Dn 125;rw[<-b]at B⊢;clear b;unfold ptr S at*;go_enter func76,ntmps76;go_wp2_with fail;refine (B _ (by repeat(first|exact ak _ _|apply aM|apply cj _ _ pu|apply aF))).mono ?_;rintro e z ⟨⟨c,rfl⟩,f⟩;have h:=Hq f;clear f B;go_wp2_with fail;exact h.out
def Ut (C:Cr Bg Hd Bu)(g:bD C) x (A:DA)(c:List PA)(d:De Bg Bu)(h:bX x A c d)(K:Nat)(ok:dw K d)(o:K+3<=100000000)(b:Nat)(l:b<4294967296)(s:af)(k:s.length<=2000):
 Calls prog 122 #[ptr A.dev, .int .u32 b,S s] x (im x A c (d.first C b s)):=by
 cases hc:C.check d.dv.ag (ey C d.dv b) s with
 |none=>exact Uv C g x A c d h K ok b l s k hc
 |some r=>
  obtain ⟨t,f⟩:=r;by_cases q:d.dv.busy=true/\f=false
  ·obtain ⟨u,rfl⟩:=q;exact Uu C g x A c d h K ok o b l s k t u hc
  refine Uw C g x A c d h K ok o b l s k t f ?_ hc;cases e:d.dv.busy with
  |false=>rfl
  |true=>cases f with
   |true=>rfl
   |false=>exact absurd ⟨e,rfl⟩ q
def Uy (C:Cr Bg Hd Bu)(l:bD C) x (A:DA)(f:List PA)(d:De Bg Bu)(h:bX x A f d)(K:Nat)(ok:dw K d)(J:K+5<=100000000)(b:Nat)(u:b<4294967296)(s:af)(o:s.length<=2000):
 Calls prog 76 #[ptr A.dev, .int .u32 b,S s] x (im x A f (d.comes C b s)):=by
 have q:∀(t:De Bg Bu) (y:World),x.grownBy y none->∀e z,im y A f t e z->(∃c:Int,e= .returned (.int .i64 c))/\im x A f t e z:=λt y g e z hz=>by obtain ⟨I,R,U,h2⟩:=hz;exact ⟨I,I,R,U,(aY.new h g).trans h2⟩
 cases s with
 |nil=>refine (UD x A b).mono ?_;rintro e y ⟨rfl,rfl⟩;exact ⟨⟨_,rfl⟩,A,f,aY.refl h⟩
 |cons c r=>
  by_cases k:5<=c.toNat
  ·refine ax (UE x A b c r k) λy g=>?_;have e1:d.comes C b (c::r)=d:=by unfold De.comes;dsimp only;rw[au (λe=>by rw[e]at k;exact absurd k ut),au (λe=>by rw[e]at k;exact absurd k ut),au (λe=>by rw[e]at k;exact absurd k ut),au (λe=>by rw[e]at k;exact absurd k ut)]
   rw[e1];exact ⟨⟨_,rfl⟩,A,f,aY.new h g⟩
  have hc:c=0\/c=1\/c=2\/c=3\/c=4:=by have e:c=UInt8.ofNat c.toNat:=pu;have:c.toNat=0\/c.toNat=1\/c.toNat=2\/c.toNat=3\/c.toNat=4:=pm;rcases this with h|h|h|h|h<;>rw[h]at e<;>simp[e]
  rcases hc with rfl|rfl|rfl|rfl|rfl
  ·refine ax (UF x A b r) λy g=>?_;exact ⟨⟨_,rfl⟩,A,f,aY.new h g⟩
  ·exact Uz x A b r _ λy g=>(Ut C l y A f d (h.new g) K ok pm b u _ o).mono (q _ y g)
  ·exact UA x A b r _ λy g=>(UK C l y A f d (h.new g) K ok J b u _ o).mono (q _ y g)
  ·exact UB x A b r _ λy g=>(UJ C l y A f d (h.new g) K ok b _ o).mono (q _ y g)
  exact UC x A b r _ λy g=>(Uq C l y A f d (h.new g) K ok J b u _ o).mono (q _ y g)
structure NA where
 nd:Nat
 all:Value
 da:DA
 ps:List PA
def NA.fp(a:NA):Ln:=a.nd::(a.all.ownBlock.toList++eA a.da a.ps)
structure jf(w:World)(a:NA)(n:No Bg Bu):Prop where
 nd:ab w a.nd 69 [ptr a.da.dev,a.all]
 all:iI w a.all n.all
 de:bX w a.da a.ps n.de
 apart:∀b,a.all.ownBlock=some b->b∉eA a.da a.ps
structure LA where
 lk:Nat
 nodes:Value
 air:Value
 ns:List NA
def LA.fp(a:LA):Ln:=a.lk::(a.air.ownBlock.toList++a.ns.flatMap NA.fp)
structure dm(w:World)(a:LA)(l:Li Bg Bu):Prop where
 lk:ab w a.lk 65 [a.nodes,a.air]
 len:a.ns.length=l.nodes.length
 row:aZ w 66 1 a.nodes a.ns.length (a.ns.map λn=>ptr n.nd)
 air:eU w a.air l.air
 no:∀(i:Nat) (n:NA) (x:No Bg Bu),a.ns[i]?=some n->l.nodes[i]?=some x->jf w n x
 apart:∀(i j:Nat) (n m:NA),i≠j->a.ns[i]?=some n->a.ns[j]?=some m->∀b∈n.fp,b∉m.fp
 uM:∀(i:Nat) (n:NA),a.ns[i]?=some n->∀b,a.air.ownBlock=some b->b∉n.fp
structure dx(x:World)(A:LA)(y:World)(A':LA)(l':Li Bg Bu):Prop where
 li:dm y A' l'
 only:aC x y A.fp
 e1:A'.lk=A.lk
 e2:A'.nodes=A.nodes
 e3:A'.ns.map NA.nd=A.ns.map NA.nd
 fp:∀b∈A'.fp,b∈A.fp\/x.heap.size<=b
def dx.refl {A:LA}{l:Li Bg Bu}(h:dm x A l):dx x A x A l:=⟨h,aC.refl _ _,rfl,rfl,rfl,λb c=>Or.inl c⟩
def dx.trans {A A' c:LA}{l d:Li Bg Bu}(h:dx x A y A' l)(k:dx y A' z c d):dx x A z c d:=
 ⟨k.li,h.only.trans k.only (λi g=>h.fp i g),k.e1.trans h.e1,k.e2.trans h.e2,k.e3.trans h.e3,λb f=>(k.fp b f).elim (λe=>h.fp b e) (λe=>Or.inr (bJ h.only.size e))⟩
def pg(k:Option TypeId):Prop:=k=some 65\/k=some 69\/k=some 41\/k=some 54\/iX k\/jM k
def pg.As {k:Option TypeId}(h:pg k):k≠some 66/\k≠some 113:=by constructor<;>rintro rfl<;>rcases h with e|e|e|e|(e|e|e|e|e|e|e)|(e|e|e|e|e)<;>first|exact absurd (aH e) ut|cases e
def pg.tp {b:Nat}(h:pg (cD w b)):∀o,w.heap[b]?=some o->¬nE o:=by
 rcases h with e|e|e|e|e|e
 ·exact mr λt c=>by rw[e]at c;obtain rfl:=aH c;decide
 ·exact mr λt c=>by rw[e]at c;obtain rfl:=aH c;decide
 ·exact mr λt c=>by rw[e]at c;obtain rfl:=aH c;decide
 ·exact mr λt c=>by rw[e]at c;obtain rfl:=aH c;decide
 ·exact e.tp
 exact e.tp
def bX.kinds {A:DA}{c:List PA}{d:De Bg Bu}(h:bX x A c d):∀b∈eA A c,(iX (cD x b)\/jM (cD x b))/\b<x.heap.size:=λb k=>by
 rcases bG.1 k with e|e
 ·exact ⟨Or.inr (h.dv.kinds b e).1,(h.dv.kinds b e).2⟩
 obtain ⟨Q,g,l⟩:=mE.1 e;obtain ⟨i,f⟩:=nw g;obtain ⟨p,o⟩:=h.IQ f;have:=(h.pe i Q p f o).kinds b l;exact ⟨Or.inl this.1,this.2⟩
def bX.only {A:DA}{e:List PA}{d:De Bg Bu}(h:bX x A e d)(g:aC x y G)(l:∀b∈G,b∉eA A e)(k:∀b∈G,pg (cD x b)):bX y A e d:=
 ⟨h.dv.only g (λb c hm=>l b hm (jF _ c)) (λb c=>(k b c).tp),h.len,
  h.row.only g (λb c hm=>(k b hm).As.2 (h.row.kind b c).1),
  λi P p f o=>(h.pe i P p f o).only g (λb c hm=>l b hm (nu _ (Am f c))),h.apart⟩
def jf.kinds {a:NA}{n:No Bg Bu}(h:jf w a n):∀b∈a.fp,pg (cD w b)/\b<w.heap.size:=λb c=>by
 simp only[NA.fp,bp,bG,vg]at c;rcases c with rfl|c|c
 ·exact ⟨Or.inr (Or.inl h.nd.kind),h.nd.lt⟩
 ·have:=h.all.kind b c;exact ⟨Or.inr (Or.inr (Or.inr (Or.inl this.1))),this.2⟩
 have:=h.de.kinds b c;exact ⟨Or.inr (Or.inr (Or.inr (Or.inr this.1))),this.2⟩
def jf.only {a:NA}{n:No Bg Bu}(h:jf x a n)(g:aC x y G)(d:∀b∈G,b∉a.fp)(e:∀b∈G,pg (cD x b)):jf y a n:=
 ⟨g.bu h.nd (λhm=>d _ hm (by simp[NA.fp])),h.all.only g (λb c hm=>d b hm (by simp[NA.fp,c])),h.de.only g (λb c hm=>d b c (by simp[NA.fp,hm])) e,h.apart⟩
def jf.step {a:NA}{n:No Bg Bu}(h:jf x a n){A':DA}{d:List PA}{d':De Bg Bu}(k:aY x a.da a.ps y A' d d'):jf y {a with da:=A',ps:=d} {n with de:=d'}:=by
 have f:a.nd∉eA a.da a.ps:=λhm=>by have e:=(h.de.kinds _ hm).1;rw[h.nd.kind]at e;rcases e with(e|e|e|e|e|e|e)|(e|e|e|e|e)<;>first|exact absurd (aH e) ut|cases e
 refine ⟨?_,h.all.only k.only (λb c=>h.apart b c),k.de,λb c hm=>?_⟩
 ·rw[show({a with da:=A',ps:=d}:NA).da.dev=a.da.dev from k.e1];exact k.only.bu h.nd f
 rcases k.fp b hm with e|e
 ·exact h.apart b c e
 have:=(h.all.kind b c).2;omega
def dm.Ar {A:LA}{l:Li Bg Bu}(h:dm x A l){n:NA}(b:A.ns[i]?=some n):∃u,l.nodes[i]?=some u:=by
 have c:i<A.ns.length:=by
  rcases eR i A.ns.length with e|e
  ·exact e
  rw[eE e]at b;cases b
 exact ⟨l.nodes[i]'(by rw[<-h.len];exact c),aW _⟩
def dm.mN {A:LA}{l:Li Bg Bu}(h:dm x A l){u:No Bg Bu}(b:l.nodes[i]?=some u):∃n,A.ns[i]?=some n:=by
 have c:i<l.nodes.length:=by
  rcases eR i l.nodes.length with e|e
  ·exact e
  rw[eE e]at b;cases b
 exact ⟨A.ns[i]'(by rw[h.len];exact c),aW _⟩
def OI {ns:List NA}{n:NA}(d:ns[i]?=some n){b:Nat}(c:b∈n.fp):b∈ns.flatMap NA.fp:=mE.2 ⟨n,dc d,c⟩
def dm.kinds {A:LA}{l:Li Bg Bu}(h:dm x A l):∀b∈A.fp,pg (cD x b)/\b<x.heap.size:=λb c=>by
 simp only[LA.fp,bp,bG,vg]at c;rcases c with rfl|c|c
 ·exact ⟨Or.inl h.lk.kind,h.lk.lt⟩
 ·have:=h.air.kind b c;exact ⟨Or.inr (Or.inr (Or.inl this.1)),this.2⟩
 obtain ⟨n,f,e⟩:=mE.1 c;obtain ⟨i,d⟩:=nw f;obtain ⟨u,g⟩:=h.Ar d;exact (h.no i n u d g).kinds b e
def dm.Ir {A:LA}{l:Li Bg Bu}(h:dm x A l){n:NA}(c:A.ns[i]?=some n):A.lk∉n.fp:=λhm=>by
 obtain ⟨u,d⟩:=h.Ar c;have b:=h.no i n u c d;simp only[NA.fp,bp,bG,vg]at hm;rcases hm with e|e|e
 ·have:=b.nd.kind;rw[<-e,h.lk.kind]at this;exact absurd (aH this) ut
 ·have:=(b.all.kind _ e).1;rw[h.lk.kind]at this;exact absurd (aH this) ut
 have e:=(b.de.kinds _ e).1;rw[h.lk.kind]at e;rcases e with(e|e|e|e|e|e|e)|(e|e|e|e|e)<;>first|exact absurd (aH e) ut|cases e
def dm.node {A:LA}{l:Li Bg Bu}(h:dm x A l){n I:NA}{u u':No Bg Bu}(d:A.ns[i]?=some n)(hu:l.nodes[i]?=some u)(k:jf y I u')(g:aC x y n.fp)(U:I.nd=n.nd)(fp:∀b∈I.fp,b∈n.fp\/x.heap.size<=b):
 dx x A y {A with ns:=A.ns.set i I} {l with nodes:=l.nodes.set i u'}:=by
 have C:i<A.ns.length:=by
  rcases eR i A.ns.length with e|e
  ·exact e
  rw[eE e]at d;cases d
 have hk:∀b∈n.fp,pg (cD x b):=λb c=>((h.no i n u d hu).kinds b c).1;have lt:∀(j:Nat) (m:NA),A.ns[j]?=some m->∀b∈m.fp,b<x.heap.size:=λj m hm b c=>by obtain ⟨v,t⟩:=h.Ar hm;exact ((h.no j m v hm t).kinds b c).2
 refine ⟨⟨g.bu h.lk (h.Ir d),by simp[h.len],?_,h.air.only g (λb c=>h.uM i n d b c),?_,?_,?_⟩,g.mono (λb c=>?_),rfl,rfl,?_,λb c=>?_⟩
 ·rw[gL];have e:(A.ns.set i I).map (λn=>ptr n.nd)=A.ns.map (λn=>ptr n.nd):=by
   apply oy;intro j;rw[fQ,fQ,qN];split
   ·rename_i R;subst R;rw[d];simp[U]
   rfl
  rw[e];exact h.row.only g (λb c hm=>(hk b hm).As.1 (h.row.kind b c).1)
 ·intro j m v hm t;by_cases f:i=j
  ·subst f;rw[kN C]at hm;rw[kN (by rw[<-h.len];exact C)]at t;obtain rfl:=aH hm;obtain rfl:=aH t;exact k
  rw[lJ f]at hm t;exact (h.no j m v hm t).only g (h.apart i j n m f d hm) hk
 ·intro j q m r J hm s b c o;by_cases f:i=j
  ·subst f;rw[kN C]at hm;obtain rfl:=aH hm;rw[lJ J]at s;rcases fp b c with e|e
   ·exact h.apart i q n r J d s b e o
   have:=lt q r s b o;omega
  rw[lJ f]at hm;by_cases a1:i=q
  ·subst a1;rw[kN C]at s;obtain rfl:=aH s;rcases fp b o with e|e
   ·exact h.apart j i m n J hm d b c e
   have:=lt j m hm b c;omega
  rw[lJ a1]at s;exact h.apart j q m r J hm s b c o
 ·intro j m hm b c o;by_cases f:i=j
  ·subst f;rw[kN C]at hm;obtain rfl:=aH hm;rcases fp b o with e|e
   ·exact h.uM i n d b c e
   have:=(h.air.kind b c).2;omega
  rw[lJ f]at hm;exact h.uM j m hm b c o
 ·simp only[LA.fp,bp,bG];exact Or.inr (Or.inr (OI d c))
 ·apply oy;intro j;rw[fQ,fQ,qN];split
  ·rename_i R;subst R;rw[d];simp[U]
  rfl
 simp only[LA.fp,bp,bG]at c⊢;rcases c with e|e|e
 ·exact Or.inl (Or.inl e)
 ·exact Or.inl (Or.inr (Or.inl e))
 obtain ⟨m,hm,a0⟩:=mE.1 e;rcases pH hm with hm|rfl
 ·exact Or.inl (Or.inr (Or.inr (mE.2 ⟨m,hm,a0⟩)))
 exact (fp b a0).imp (λe=>Or.inr (Or.inr (OI d e))) id
def dm.device {A:LA}{l:Li Bg Bu}(h:dm x A l){n:NA}{u:No Bg Bu}(f:A.ns[i]?=some n)(g:l.nodes[i]?=some u){A':DA}{d:List PA}{d':De Bg Bu}(k:aY x n.da n.ps y A' d d'):
 dx x A y {A with ns:=A.ns.set i {n with da:=A',ps:=d}} {l with nodes:=l.nodes.set i {u with de:=d'}}:=by
 refine h.node f g ((h.no i n u f g).step k) (k.only.mono λb c=>by simp[NA.fp,c]) rfl λb c=>?_;simp only[NA.fp,bp,bG]at c⊢;rcases c with e|e|e
 ·exact Or.inl (Or.inl e)
 ·exact Or.inl (Or.inr (Or.inl e))
 exact (k.fp b e).imp (λe=>Or.inr (Or.inr e)) id
def jf.aE {a:NA}{n:No Bg Bu}(h:jf x a n){all:List Pk}(g:aC x y G)(d:∀b∈G,b=a.nd\/a.all.ownBlock=some b)(c:ab y a.nd 69 [ptr a.da.dev,v])(f:iI y v all)(k:∀b,v.ownBlock=some b->a.all.ownBlock=some b\/x.heap.size<=b):
 jf y {a with all:=v} {n with all:=all}:=by
 refine ⟨c,f,h.de.only g (λb c hm=>?_) (λb c=>?_),λb c hm=>?_⟩
 ·rcases d b c with rfl|e
  ·have e:=(h.de.kinds _ hm).1;rw[h.nd.kind]at e;rcases e with(e|e|e|e|e|e|e)|(e|e|e|e|e)<;>first|exact absurd (aH e) ut|cases e
  exact h.apart b e hm
 ·refine (h.kinds b ?_).1;rcases d b c with rfl|e
  ·simp[NA.fp]
  simp[NA.fp,e]
 rcases k b c with e|e
 ·exact h.apart b e hm
 have:=(h.de.kinds b hm).2;omega
def dm.Er {A:LA}{l:Li Bg Bu}(h:dm x A l){air:List Gr}(g:aC x y G)(k:∀b∈G,b=A.lk\/A.air.ownBlock=some b)(c:ab y A.lk 65 [A.nodes,v])(s:eU y v air)(r:∀b,v.ownBlock=some b->A.air.ownBlock=some b\/x.heap.size<=b):
 dx x A y {A with air:=v} {l with air:=air}:=by
 have o:∀b∈G,b∈A.fp:=λb c=>by
  rcases k b c with rfl|e
  ·simp[LA.fp]
  simp[LA.fp,e]
 have q:∀b∈G,pg (cD x b):=λb c=>(h.kinds b (o b c)).1;refine ⟨⟨c,h.len,h.row.only g (λb c hm=>(q b hm).As.1 (h.row.kind b c).1),s,λi n u d f=>(h.no i n u d f).only g (λb c hm=>?_) q,h.apart,λi n d b c hm=>?_⟩,g.mono o,rfl,rfl,rfl,λb c=>?_⟩
 ·rcases k b c with rfl|e
  ·exact h.Ir d hm
  exact h.uM i n d b e hm
 ·rcases r b c with e|e
  ·exact h.uM i n d b e hm
  obtain ⟨u,f⟩:=h.Ar d;have:=((h.no i n u d f).kinds b hm).2;omega
 simp only[LA.fp,bp,bG,vg]at c⊢;rcases c with e|e|e
 ·exact Or.inl (Or.inl e)
 ·rcases r b e with e|e
  ·exact Or.inl (Or.inr (Or.inl e))
  exact Or.inr e
 exact Or.inl (Or.inr (Or.inr e))
def dm.new {A:LA}{l:Li Bg Bu}(h:dm x A l)(g:x.grownBy y none):dm y A l:=
 ⟨h.lk.kept g pu,h.len,h.row.new g,h.air.new g,λi n u b c=>(h.no i n u b c).only (aC.new g []) pu pu,h.apart,h.uM⟩
def dx.new {A:LA}{l:Li Bg Bu}(h:dm x A l)(g:x.grownBy y none):dx x A y A l:=⟨h.new g,aC.new g _,rfl,rfl,rfl,λb c=>Or.inl c⟩
def dm.named {A:LA}{l:Li Bg Bu}(h:dm x A l){n:NA}(c:A.ns[i]?=some n):∃g o b,A.nodes= .slice (some ⟨g,o,none⟩) A.ns.length b/\x.cell? ⟨g,o+i,none⟩=some (ptr n.nd):=by
 have f:i<A.ns.length:=by
  rcases eR i A.ns.length with e|e
  ·exact e
  rw[eE e]at c;cases c
 obtain ⟨g,o,b,e,_,_,_,_,d⟩:=h.row.at pm;refine ⟨g,o,b,e,d i _ ?_⟩;rw[fQ,c];rfl
end
section
open Go.RowKit Top
def Ua w:
 Calls prog 64 #[] w λe w'=>∃a,e= .returned (.pointer (some ⟨a,0,none⟩))/\Bk w' w.heap.size a 0 0 (λ_=>none)/\w.grownBy w' none:=by
 have b:=@run_makeMap prog;go_enter func64,ntmps64;go_wp2;go_ret;refine ⟨w.heap.size+1,?_,⟨w.heap.size,pm,bm _, .map [],?_,((World.ownsMap_made w _ _ _).alloc _),S9,λx c h=>by cases h⟩,aF (aF (ak _ _) _) _⟩
 ·simp
 have:=aO (w.alloc (.map #[] 0)) (.cells #[.int .i64 0, .map (some w.heap.size)] 184);rw[show(w.alloc (.map #[] 0)).heap.size=w.heap.size+1from pu]at this;exact this
def mz(z:di×Nat):Lv:=[S z.1.ag,S z.1.aD, .int .u32 z.1.at_, .slice (some ⟨z.2,0,none⟩) 1 1]
structure Fo(a:di):Prop where
 ag:a.ag.length=32
 aD:a.aD.length=32
 at_:a.at_<4294967296
 addr:a.addr<4294967296
 low:a.addr*2^24%4294967296=0
structure pU(w:World)(v:Value)(zs:List (di×Nat)):Prop where
 row:aZ w 91 4 v zs.length (zs.flatMap mz)
 path:∀z∈zs,ab w z.2 88 [.int .u32 z.1.addr, .int .i64 24]
def pU.new {b:List (di×Nat)}(h:pU w v b)(g:w.grownBy y none):pU y v b:=⟨h.row.new g,λz c=>(h.path z c).kept g pu⟩
def PE (z:di×Nat):(mz z).length=4:=rfl
def J0 {b:List (di×Nat)}(h:pU x v b){z:di×Nat}(f:b[i]?=some z):∃g o k,v= .slice (some ⟨g,o,none⟩) b.length k/\x.cell? ⟨g,o+i*4,none⟩=some (S z.1.ag)/\x.cell? ⟨g,o+i*4+1,none⟩=some (S z.1.aD)/\x.cell? ⟨g,o+i*4+2,none⟩=some (.int .u32 z.1.at_)/\x.cell? ⟨g,o+i*4+3,none⟩=some (.slice (some ⟨z.2,0,none⟩) 1 1):=by
 have s:i<b.length:=by
  rcases eR i b.length with e|e
  ·exact e
  rw[eE e]at f;cases f
 obtain ⟨g,o,k,e,_,_,_,I,c⟩:=h.row.at pm;have u:∀l:List (di×Nat),(l.flatMap mz).length=l.length*4:=by
  intro l;induction l with
  |nil=>rfl
  |cons a l C=>rw[ox,aK,C,PE,eI];omega
 have d:∀j,j<4->(b.flatMap mz)[i*4+j]?=(mz z)[j]?:=λj t=>by
  have r:b.flatMap mz=(b.take i).flatMap mz++(mz z++(b.drop (i+1)).flatMap mz):=by rw[<-ox,<-qK];congr 1;rw[aW s]at f;obtain rfl:=aH f;rw[List.getElem_cons_drop,pJ]
  have q:((b.take i).flatMap mz).length=i*4:=by rw[u,aJ,iF pm]
  rw[r,qI (by rw[q];omega),q,show i*4+j-i*4=j from pm,uW (by rw[PE];exact t)]
 refine ⟨g,o,k,e,?_,?_,?_,?_⟩
 ·exact c (i*4) _ (by have:=d 0 pm;rw[jY]at this;rw[this];rfl)
 ·rw[nC];exact c (i*4+1) _ (by rw[d 1 pm];rfl)
 ·rw[nC];exact c (i*4+2) _ (by rw[d 2 pm];rfl)
 rw[nC];exact c (i*4+3) _ (by rw[d 3 pm];rfl)
def xB(own:af)(l:List di):Prop:=∀m,m<l.length->¬JL own l m
def RF(x:World)(here:Nat)(own d:af)(aj:Nat)(l:List di)(e:Ending)(y:World):Prop:=
 (xB own l->∃A c,e= .returned (.tuple #[ptr A.dev, .int .i64 0])/\bX y A c (xT here own d aj l)/\x.grownBy y none/\∀b∈eA A c,x.heap.size<=b)/\
 (¬xB own l->e= .returned (.tuple #[.pointer none, .int .i64 8])/\x.grownBy y none)
def UH x (here:Nat)(own b:af)(aj:Int)(a:Option Addr)(n d:Nat)(h0:here≠0)(h1:own.length=32)(f:b.length=32)(c:aj≠1/\aj≠2):
 Calls prog 39 #[.int .u32 here,S own,S b, .int .i64 aj, .slice a n d] x (λe y=>e= .returned (.tuple #[.pointer none, .int .i64 1])/\x.grownBy y none):=by
 have g:((here:Int)==0)=false:=by rw[dC];omega
 have h:((own.length:Int) !=32)=false:=by rw[h1];rfl
 have k:((b.length:Int) !=32)=false:=by rw[f];rfl
 have l:(aj !=1)=true:=by rw[dY];exact c.1
 have o:(aj !=2)=true:=by rw[dY];exact c.2
 unfold S;go_enter func39,ntmps39;go_wp2;go_ret2;exact ⟨rfl,ak _ _⟩
def abN (c:Nat->Nat)(h:Tree w tb (λp=>if p=[]then some tb else none) (λ_=>false) (λ_=>0) 0)(f:B0<=tb):TB B0 w tb (fU c 0):=by
 have e:(iw (fU c 0)).length=0:=Nat.le_zero.1 (Jz c 0);refine ⟨_,_,_,by rw[e];exact h,λp b d=>?_,?_,by rw[e];omega⟩
 ·split at d
  ·rw[<-aH d];exact f
  cases d
 funext p;rfl
def TB.Rj {O:Own}(h:TB B0 w tb O):TB 0 w tb O:=by obtain ⟨N,M,V,T,e,c⟩:=h;exact ⟨N,M,V,T,λp b d=>fE _,c⟩
def Xc {y2}{b f:Nat}(here:Nat)(own d c:af)(o:c=cS own eB)(aj:Nat)(l:List di)(k:TB B0 y2 tb (fU (λj=>((l[j]?).map di.addr).getD 0) 0))(h:lV y2 b f 0 0 (λ_=>none)):
 bX (y2.alloc (.cells #[.int .u32 here,S own,S c,S d, .int .i64 aj, .int .u64 0,S [], .int .u32 0, .int .i64 0, .int .i64 0, .bool false, .slice none 0 0,ptr tb,ptr b, .slice none 0 0, .slice none 0 0] 102)) ⟨y2.heap.size, .slice none 0 0,tb,b,f, .slice none 0 0, .slice none 0 0⟩ [] (iM here own d aj l 0):=by
 have g:y2.grownBy (y2.alloc (.cells #[.int .u32 here,S own,S c,S d, .int .i64 aj, .int .u64 0,S [], .int .u32 0, .int .i64 0, .int .i64 0, .bool false, .slice none 0 0,ptr tb,ptr b, .slice none 0 0, .slice none 0 0] 102)) none:=aF (ak _ _) _;refine ⟨⟨?_,nX _ _ _,nX _ _ _,⟨_,(k.new g).Rj,λx q=>Qf _ 0 x q⟩,h.only (aC.new g []) pu pu⟩,rfl,nX _ _ _,λi P p e=>by simp at e,λi j P Q _ e=>by simp at e⟩;subst o;exact aO y2 _
open Classical in
def aC.gt (g:GT B0 w w'):∃G,aC w w' G/\∀b∈G,B0<=b/\∃o,w.heap[b]?=some o/\nE o:=by
 refine ⟨(List.range w.heap.size).filter λb=>decide (w'.heap[b]?≠w.heap[b]?),⟨g.os,g.tape,g.output,g.size,λi k h=>?_⟩,λb f=>?_⟩
 ·rw[xn,pM,kr]at h;exact uX λe=>h ⟨k,e⟩
 rw[xn,pM,kr]at f;obtain ⟨c,d⟩:=f;refine ⟨vC.1 λe=>d (g.low b c e),w.heap[b],uY c,?_⟩;exact uX λe=>d ((g.qq b _ (uY c) e).trans (uY c).symm)
def bX.gt {A:DA}{r:List PA}{d:De Bg Bu}(h:bX w A r d)(g:GT B0 w w'){O:Own}(hT:TB 0 w' A.tb O){I:Nat->Option Nat}(hr:∀x,x<4294967296->jx O x 33=(I x).map Int.ofNat):bX w' A r ⟨{d.dv with fB:=I},d.aI⟩:=by
 obtain ⟨G,c,U⟩:=aC.gt g;have q:∀b,(∀o,w.heap[b]?=some o->¬nE o)->b∉G:=λb e hm=>by obtain ⟨_,o,J,R⟩:=U b hm;exact e o J R
 have l:∀b∈A.fp,b∉G:=λb e=>q b (h.dv.kinds b e).1.tp;have nr:∀k,A.aI.ownBlock=some k->k∉G:=λk f=>q k (mr λt C=>by rw[(h.row.kind k f).1]at C;cases C;decide)
 exact ⟨⟨c.bu h.dv.dv (l _ (by simp[DA.fp])),h.dv.out.only c (λk f=>l _ (by simp[DA.fp,f])),h.dv.aE.only c (λk f=>l _ (by simp[DA.fp,f])),⟨O,hT,hr⟩,h.dv.bk.only c (l _ (by simp[DA.fp])) (l _ (by simp[DA.fp]))⟩,h.len,h.row.only c nr,
  λi P p s u=>(h.pe i P p s u).only c (λb e=>q b ((h.pe i P p s u).kinds b e).1.tp),h.apart⟩
def sv(x:World)(D B:Nat)(P:PA)(p:Pe Bg):Prop:=eV x D P p/\B<=P.pe/\B<=P.tm/\∀b∈P.fp,b=P.pe\/b=P.tm
def sv.only {P:PA}{p:Pe Bg}(h:sv x D B P p)(g:aC x y G)(c:∀b∈G,b<B):sv y D B P p:=
 ⟨h.1.only g (λb d hm=>by
  have:=c b hm;rcases h.2.2.2 b d with e|e<;>rw[e]at this
  ·have:=h.2.1;omega
  have:=h.2.2.1;omega),h.2⟩
def sv.new {P:PA}{p:Pe Bg}(h:sv x D B P p)(g:x.grownBy y none):sv y D B P p:=h.only (aC.new g []) pu
def pX(B:Nat):Value->World->Prop:=λv x=>∃b,v=ptr b/\dS x b (ik Ti.zero)/\B<=b
def pW(D B:Nat)(p:Pe Bg):Value->World->Prop:=λv x=>∃P:PA,v= .agg (qw D P p).toArray/\dS x P.tm (ik Ti.zero)/\B<=P.tm/\P.waits= .slice none 0 0/\P.begun=none/\P.aN=none/\P.aL=none/\P.next=none
def sA(D B:Nat)(p:Pe Bg):Value->World->Prop:=λv x=>∃P:PA,v=ptr P.pe/\sv x D B P p
def sB(D B:Nat)(p:Pe Bg):Value->World->Prop:=λv x=>∃b P,v= .slice (some ⟨b,0,none⟩) 1 1/\ab x b 113 [ptr P.pe]/\B<=b/\sv x D B P p
def vI(D B n:Nat)(aN:Value)(d:Lv)(p:Pe Bg):Value->World->Prop:=λv x=>∃b c P,v= .slice b (n+1) c/\aZ x 113 1 v (n+1) (d++[ptr P.pe])/\(v.ownBlock=aN.ownBlock\/∃k,v.ownBlock=some k/\B<=k)/\sv x D B P p
def dS.only {b:Nat}{t:Tm}(h:dS x b t)(g:aC x y G)(c:b∉G):dS y b t:=g.obj h c
section
variable{D B n:Nat}{p:Pe Bg}{G:Ln}{c1:Prop}
def pX.mono (f:∀b∈G,b<B):(∀v x y,pX B v x->x.grownBy y none->pX B v y)/\(c1->∀v x y,pX B v x->aC x y G->pX B v y):=by
 have k:∀(H:Ln),(∀b∈H,b<B)->∀v x y,pX B v x->aC x y H->pX B v y:=by rintro H l v x y ⟨o,c,d,e⟩ g;exact ⟨o,c,d.only g (λhm=>by have:=l _ hm;omega),e⟩
 exact ⟨λv x y h g=>k [] pu v x y h (aC.new g []),λ_=>k G f⟩
def pW.mono (l:∀b∈G,b<B):(∀v x y,pW D B p v x->x.grownBy y none->pW D B p v y)/\(c1->∀v x y,pW D B p v x->aC x y G->pW D B p v y):=by
 have k:∀(H:Ln),(∀b∈H,b<B)->∀v x y,pW D B p v x->aC x y H->pW D B p v y:=by rintro H o v x y ⟨P,c,d,e,f⟩ g;exact ⟨P,c,d.only g (λhm=>by have:=o _ hm;omega),e,f⟩
 exact ⟨λv x y h g=>k [] pu v x y h (aC.new g []),λ_=>k G l⟩
def sA.mono (e:∀b∈G,b<B):(∀v x y,sA D B p v x->x.grownBy y none->sA D B p v y)/\(c1->∀v x y,sA D B p v x->aC x y G->sA D B p v y):=by
 refine ⟨?_,λ_=>?_⟩
 ·rintro v x y ⟨P,c,d⟩ g;exact ⟨P,c,d.new g⟩
 rintro v x y ⟨P,c,d⟩ g;exact ⟨P,c,d.only g e⟩
def sB.mono (k:∀b∈G,b<B):(∀v x y,sB D B p v x->x.grownBy y none->sB D B p v y)/\(c1->∀v x y,sB D B p v x->aC x y G->sB D B p v y):=by
 refine ⟨?_,λ_=>?_⟩
 ·rintro v x y ⟨h,P,c,d,e,f⟩ g;exact ⟨h,P,c,d.kept g pu,e,f.new g⟩
 rintro v x y ⟨h,P,c,d,e,f⟩ g;exact ⟨h,P,c,g.bu d (λhm=>by have:=k _ hm;omega),e,f.only g k⟩
def vI.mono {aN}{xs}:∀v x y,vI D B n aN xs p v x->x.grownBy y none->vI D B n aN xs p v y:=by rintro v x y ⟨f,h,P,b,c,d,e⟩ g;exact ⟨f,h,P,b,c.new g,d,e.new g⟩
end
def Zm {own e:af}{l:List di}{c:af}(h:known (iM here own e aj l m).aI c=some j):∃f b,f<m/\l[f]?=some b/\b.ag=c:=by
 unfold known at h;rw[Bi]at h;obtain ⟨q,d,_⟩:=h;obtain ⟨a,g,k,o⟩:=PI l m (aW q);refine ⟨j,a,g,k,?_⟩;have d:((iM here own e aj l m).aI[j]).ag=c:=by simpa using d
 rw[<-d];exact (iQ Pe.ag o).symm
def Zn {c:List (Pe Bg)}{b:af}(h:known c b=none){p:Pe Bg}(e:c[j]?=some p)(d:p.ag=b):False:=by unfold known at h;rw[List.findIdx?_eq_none_iff]at h;have:=h p (dc e);rw[d]at this;simp at this
def YR:(prog.info? 113).map (λi=>(i.zero,i.size,i.bytes))=some (some (.pointer none),1,8):=qr
def X9 w v (n:Nat) xs (h:aZ w 113 1 v n xs)(e b:Nat)(q:ab w b 113 [ptr e])(U:n<=1000000):
 ∃c d w',(Builtin.append_ #[98,98] 98 #[v, .slice (some ⟨b,0,none⟩) 1 1]).run prog w= .ok (.slice c (n+1) d) w'/\aZ w' 113 1 (.slice c (n+1) d) (n+1) (xs++[ptr e])/\w.grownBy w' v.ownBlock/\((Value.slice c (n+1) d).ownBlock=v.ownBlock\/(Value.slice c (n+1) d).ownBlock=some w.heap.size)/\aZ w' 113 1 v n xs:=by
 obtain ⟨R,r,C,I,J⟩:=mF YR;obtain ⟨v',w',g,f,k,l,o⟩:=wE w 98 98 113 R _ 1 8 underlying98 r C I J rfl pm v n xs h ⟨b,0,none⟩ 1 1 [ptr e] rfl (λj u s=>by rw[qY,q.cell,ef];exact s) (by simp[Value.oneCell',ptr]) pm (by unfold maxLen;omega) pm
 obtain ⟨c,d,t⟩:=gj f;subst t;exact ⟨c,d,w',g,f,k,l,o⟩
def bX.rows {A:DA}{f:List PA}{d:De Bg Bu}(h:bX x A f d)(u:v=A.aI)(g:aC x y v.ownBlock.toList)(s:aZ y 113 1 v f.length (f.map λP=>ptr P.pe)):bX y A f d:=by
 subst u;have l:∀b∈A.aI.ownBlock.toList,cD x b=some 113:=λb c=>(h.row.kind b (by simpa using c)).1;have r:∀b,jM (cD x b)\/iX (cD x b)->b∉A.aI.ownBlock.toList:=λb c hm=>by
  have:=Eh (l b hm);rcases c with e|e
  ·exact this.2 e
  exact this.1 e
 exact ⟨h.dv.only g (λb c=>r b (Or.inl (h.dv.kinds b c).1)) (λb c=>mr λt q=>by rw[l b c]at q;cases q;decide),h.len,s,λi P p k o=>(h.pe i P p k o).only g (λb c=>r b (Or.inr ((h.pe i P p k o).kinds b c).1)),h.apart⟩
end
section
open Go.RowKit Top
def sV (h:x.grownBy w none)(g:aC w y G)(d:∀b∈G,x.heap.size<=b):x.grownBy y none:=
 ⟨g.os.trans h.os,g.tape.trans h.tape,g.output.trans h.output,bJ h.size g.size,λk c _=>(g.block k (fW c h.size) (λhm=>by have:=d k hm;omega)).trans (h.block k c pu)⟩
def XW {b}(h:a.grownBy w none)(g:GT a.heap.size w b):a.grownBy b none:=
 ⟨g.os.trans h.os,g.tape.trans h.tape,g.output.trans h.output,bJ h.size g.size,λk c _=>(g.low k (fW c h.size) c).trans (h.block k c pu)⟩
def ab.gt {b:Nat}{t:TypeId}{cs}(h:ab w b t cs)(g:GT B0 w y)(l:t≠181/\t≠179):ab y b t cs:=by obtain ⟨G,f,k⟩:=aC.gt g;refine f.bu h (λhm=>?_);obtain ⟨_,o,d,e⟩:=k b hm;exact mr (λq c=>by rw[h.kind]at c;obtain rfl:=aH c;exact l) o d e
def TB.Po {O:Own}(h:TB B0 w tb O)(g:aC w w' G)(u:∀b∈G,∀o,w.heap[b]?=some o->¬nE o):TB B0 w' tb O:=by
 obtain ⟨N,M,V,T,l,q,r⟩:=h;refine ⟨N,M,V,⟨T.root,T.inj,T.pre,T.len,T.mark,T.val,λp b s=>?_⟩,l,q,r⟩;have c:=T.bu p b s;obtain ⟨o,f,k⟩:=c.DD;have t:b∉G:=λe=>u b e o f k;unfold fk at c⊢;split at c<;>rename_i d<;>first|rw[av d]|rw[au d]
 all_goals exact g.obj c t
def bX.cell {A:DA}{b:List PA}{d:De Bg Bu}(h:bX x A b d)(e:A.dev=D)(c:A.tb=tb):x.cell? ⟨D,11,none⟩=some A.aI/\x.cell? ⟨D,12,none⟩=some (ptr tb)/\x.frozen? ⟨D,11,none⟩=false/\x.frozen? ⟨D,6,none⟩=false:=by subst e;subst c;exact ⟨ab.cell h.dv.dv 11,ab.cell h.dv.dv 12,ab.frozen h.dv.dv 11,ab.frozen h.dv.dv 6⟩
def bX.more {A:DA}{c:List PA}{d:De Bg Bu}(h:bX x A c d){P:PA}{p:Pe Bg}(J:aZ x 113 1 v (c.length+1) ((c.map λP=>ptr P.pe)++[ptr P.pe]))(C:eV x A.dev P p)(u:∀Q∈c,∀b∈P.fp,b∉Q.fp):
 bX (x.setCell ⟨A.dev,11,none⟩ v) {A with aI:=v} (c++[P]) ⟨d.dv,d.aI++[p]⟩/\aC x (x.setCell ⟨A.dev,11,none⟩ v) [A.dev]:=by
 obtain ⟨U,o⟩:=cZ.write (A':={A with aI:=v}) (d':=d.dv) h.dv 11 v rfl rfl rfl rfl rfl h.dv.out h.dv.aE rfl rfl;refine ⟨⟨U,by rw[aK,aK,h.len];rfl,?_,?_,?_⟩,o⟩
 ·rw[aK,jW];refine aZ.only J o (λk hk hm=>?_);have:=(aZ.kind J k hk).1;rw[jG.1 hm,h.dv.dv.kind]at this;exact absurd (aH this) ut
 ·intro i Q q f r;rcases BL i c.length with e|e|e
  ·rw[uW e]at f;rw[uW (by rw[<-h.len];exact e)]at r;have I:=h.pe i Q q f r;exact I.only o (λb l hm=>DY h.dv I b l (by rw[jG.1 hm];simp[DA.fp]))
  ·subst e;rw[qI (bm _),il]at f;simp only[Bw,h.len,Nat.lt_irrefl,oE,il]at r;obtain rfl:P=Q:=by simpa using f
   obtain rfl:p=q:=by simpa using r
   exact C.only o (λb l hm=>DY h.dv C b l (by rw[jG.1 hm];simp[DA.fp]))
  rw[eE (by rw[aK];simp;omega)]at f;cases f
 intro i j Q R a0 f hR;have key:∀k (S:PA),(c++[P])[k]?=some S->(c[k]?=some S/\k<c.length)\/(k=c.length/\S=P):=λk S g=>by
  rcases BL k c.length with e|e|e
  ·rw[uW e]at g;exact Or.inl ⟨g,e⟩
  ·subst e;rw[qI (bm _),il]at g;exact Or.inr ⟨rfl,by simpa using g.symm⟩
  rw[eE (by rw[aK];simp;omega)]at g;cases g
 rcases key i Q f with⟨s,a2⟩|⟨s,rfl⟩<;>rcases key j R hR with⟨t,b2⟩|⟨t,rfl⟩
 ·exact h.apart i j Q R a0 s t
 ·exact λb l hc=>u Q (dc s) b hc l
 ·exact u R (dc t)
 omega
def Xa {x5}{A:DA}{f:List PA}{d:De Bg Bu}{O:Own}{v17}{p:Pe Bg}(s:bX wq A f d)(J:bX x5 A f d)(C:aC wq x5 A.aI.ownBlock.toList)(a1:f.length=m)(hq:vI A.dev wq.heap.size m A.aI (f.map λP=>ptr P.pe) p v17 x5)(hT:TB x.heap.size wq A.tb O)(u:x.grownBy wq none)(h:∀b∈eA A f,x.heap.size<=b)(R:∀b∈A.aI.ownBlock.toList,x.heap.size<=b):
 ∃l o P,v17= .slice l (m+1) o/\bX (x5.setCell ⟨A.dev,11,none⟩ v17) {A with aI:=v17} (f++[P]) ⟨d.dv,d.aI++[p]⟩/\TB x.heap.size (x5.setCell ⟨A.dev,11,none⟩ v17) A.tb O/\x.grownBy (x5.setCell ⟨A.dev,11,none⟩ v17) none/\(∀b∈eA {A with aI:=v17} (f++[P]),x.heap.size<=b)/\(∀b∈v17.ownBlock.toList,x.heap.size<=b):=by
 obtain ⟨l,o,P,U,a5,a3,a4,a6,a8,I⟩:=hq;subst a1;have a2:∀Q∈f,∀b∈P.fp,b∉Q.fp:=λQ hQ b c hc=>by have q:=(s.kinds b (bG.2 (Or.inr (mE.2 ⟨Q,hQ,hc⟩)))).2;rcases I b c with e|e<;>omega
 obtain ⟨q,r⟩:=J.more a5 a4 a2;have a0:cD x5 A.dev=some 102:=J.dv.dv.kind;have a7:=u.size;refine ⟨l,o,P,U,q,?_,?_,?_,?_⟩
 ·refine (hT.Po C (λb c=>mr λt g=>?_)).Po r (λb c=>mr λt g=>?_)
  ·have:=(s.row.kind b (by simpa using c)).1;rw[this]at g;obtain rfl:=aH g;decide
  rw[jG.1 c,a0]at g;obtain rfl:=aH g;decide
 ·exact sV (sV u C R) r (λb c=>h b (by rw[jG.1 c];simp[eA,DA.fp]))
 ·intro b c;unfold eA at c;rw[qK]at c;rcases bG.1 c with e|e
  ·exact h b (bG.2 (Or.inl e))
  rcases bG.1 e with e|e
  ·exact h b (bG.2 (Or.inr e))
  have:b∈P.fp:=by simpa using e
  rcases I b this with e|e<;>omega
 intro b c;rcases a3 with e|⟨k,e,hk⟩
 ·rw[e]at c;exact R b c
 rw[e]at c;obtain rfl:b=k:=by simpa using c
 omega
def Xd {A:DA}{c:List PA}{own b:af}{l:List di}{d:Nat->Nat}(f:bX wq A c (iM here own b aj l m))(e:TB x.heap.size y A.tb (fU d (m+1)))(g:GT x.heap.size wq y):
 bX y A c ⟨{(iM here own b aj l m).dv with fB:=rK (fU d (m+1))},(iM here own b aj l m).aI⟩:=f.gt g e.Rj (λx h=>Qf _ _ x h)
def Xb {own b:af}{l:List di}{a:di}(c:l[m]?=some a):(⟨{(iM here own b aj l m).dv with fB:=rK (fU (λj=>((l[j]?).map di.addr).getD 0) (m+1))},(iM here own b aj l m).aI++[mA m a]⟩:De Bg Bu)=iM here own b aj l (m+1):=by unfold iM;rw[L7 l m a c];rfl
def WZ {A:DA}{e:List PA}{own c:af}{l:List di}(h:bX x A e (iM here own c aj l l.length))(g:gf x A y A (iM here own c aj l l.length).dv.fu):
 bX (y.setCell ⟨A.dev,6,none⟩ (S (fg c 0))) A e (xT here own c aj l)/\aC x (y.setCell ⟨A.dev,6,none⟩ (S (fg c 0))) A.fp:=by
 have f:gf y A (y.setCell ⟨A.dev,6,none⟩ (S (fg c 0))) A (xT here own c aj l).dv:=g.dv.put 6 (S (fg c 0)) rfl rfl rfl rfl rfl;have d:=g.only.trans f.only (λi s=>Or.inl s);have o:∀b∈A.fp,jM (cD x b):=λb r=>(h.dv.kinds b r).1;refine ⟨⟨f.dv,h.len,?_,λi P p q u=>(h.pe i P p q u).device d o,h.apart⟩,d⟩;exact h.row.only d (λk t hm=>(Eh (h.row.kind k t).1).2 (o k hm))
def QN {b:Array Oper}{o:Oper}{a:Act}{K:Act->World->Prop}{E:Prop}
 (e:o.guard=none) (s x:Operand) (t:TypeId) (f:o.op=Op.call {callee:=Callee.builtin Builtin.append,args:=#[s,x],argTypes:=#[t,t]}) (k:o.type=t)
 (v u c:Value) w' (g:(Builtin.append_ #[t,t] t #[v,u]).run P w= .ok c w') (h:a.eval s=v) (q:a.eval x=u) (d:K (a.put o.dst c) w'):
 if Region.wanted o (yielded b a.tmps)=true then Oper.wp P o a w K Q else E:=by
 have l:Region.wanted o (yielded b a.tmps)=true:=by simp[Region.wanted,e]
 rw[av l];unfold Oper.wp;simp[execOp,f,k,resolve,invoke,builtin,h,q,g,Result.andThen];exact d
def uS {c:Code}{a}(X:World->Prop)(F:Act)(h:c.wp P (λe b w'=>match e with| .normal=>b=F/\X w'|_=>False) a w)(k:∀w',X w'->Q .normal F w'):c.wp P Q a w:=
 wp_mono h (by intro e b w' h;cases e<;>first|exact h.elim|(obtain ⟨rfl,d⟩:=h;exact k _ d))
def ZU {p:Addr}(h:a.cell? p=some v):p.block<a.heap.size:=by
 rcases eR p.block a.heap.size with b|b
 ·exact b
 simp[World.cell?,tC b]at h
def aC.cell {b}(h:aC a b G){p:Addr}(c:a.cell? p=some v)(d:p.block∉G):b.cell? p=some v:=by rw[<-c];unfold World.cell?;rw[h.block _ (ZU c) d]
def iu(k a b c:Int)(d dst:Nat)(t:af):Value:= .agg #[.int .i64 k, .int .i64 a, .int .i64 b, .int .i64 c, .int .u32 d, .int .u32 dst,S t]
def Hn {l:List Gr}(h:eU x v l){m:Gr}(hm:l[i]?=some m):∃g o b,v= .slice (some ⟨g,o,none⟩) l.length b/\x.cell? ⟨g,o+i*3,none⟩=some (.int .u32 m.src)/\x.cell? ⟨g,o+i*3+1,none⟩=some (.int .u32 m.dst)/\x.cell? ⟨g,o+i*3+2,none⟩=some (S m.text)/\x.frozen? ⟨g,o+i*3+2,none⟩=false:=by
 have r:i<l.length:=by
  rcases eR i l.length with e|e
  ·exact e
  rw[eE e]at hm;cases hm
 obtain ⟨g,o,b,e,_,_,_,q,c⟩:=h.at pm;have d:∀j,j<3->(l.flatMap dz)[i*3+j]?=(dz m)[j]?:=λj s=>by
  have k:l.flatMap dz=(l.take i).flatMap dz++(dz m++(l.drop (i+1)).flatMap dz):=by rw[<-ox,<-qK];congr 1;rw[aW r]at hm;obtain rfl:=aH hm;rw[List.getElem_cons_drop,pJ]
  have f:((l.take i).flatMap dz).length=i*3:=by rw[xX ur,aJ,iF pm]
  rw[k,qI (by rw[f];omega),f,show i*3+j-i*3=j from pm,uW (by rw[ur];exact s)]
 refine ⟨g,o,b,e,?_,?_,?_,q _⟩
 ·exact c (i*3) _ (by have:=d 0 pm;rw[jY]at this;rw[this];rfl)
 ·rw[nC];exact c (i*3+1) _ (by rw[d 1 pm];rfl)
 rw[nC];exact c (i*3+2) _ (by rw[d 2 pm];rfl)
def XS {l:List Gr}{g o b:Nat}(h:eU x (.slice (some ⟨g,o,none⟩) l.length b) l){m:Gr}(hm:l[i]?=some m)(t:af):
 eU (x.setCell ⟨g,o+i*3+2,none⟩ (S t)) (.slice (some ⟨g,o,none⟩) l.length b) (l.set i {m with text:=t})/\x.grownBy (x.setCell ⟨g,o+i*3+2,none⟩ (S t)) (some g)/\aC x (x.setCell ⟨g,o+i*3+2,none⟩ (S t)) [g]:=by
 have gx:=aw (ak x (some g)) (o+i*3+2) (S t);refine ⟨?_,gx,(aC.grown gx).mono pu⟩;have s:i<l.length:=by
  rcases eR i l.length with e|e
  ·exact e
  rw[eE e]at hm;cases hm
 rcases h.2with⟨e,_⟩|⟨g',o',a2,c,e,hg,U,h4,r,h6⟩
 ·cases e
 injection e with e d f;injection e with e;injection e with e k;subst e k f;have hB:ab x g 41 c.toList:=hg;have a0:=hB.set (o+i*3+2) (S t);have a1:c.toList.length=o+b*3:=by rw[rT];exact r
 refine ⟨by rw[xX ur,gL],Or.inr ⟨g,o,b,_,by rw[gL],a0,by rw[gL];exact U,h4,by simp[r],?_⟩⟩;have I:l[i]=m:=by rw[aW s]at hm;exact aH hm
 have d:∀q:Gr,(l.set i q).flatMap dz=(l.take i).flatMap dz++(dz q++(l.drop (i+1)).flatMap dz):=λq=>by rw[List.set_eq_take_append_cons_drop,av s,qK,ox]
 have f:((l.take i).flatMap dz).length=i*3:=by rw[xX ur,aJ,iF pm]
 have k:l.flatMap dz=(l.take i).flatMap dz++(dz m++(l.drop (i+1)).flatMap dz):=by
  have R:l.set i m=l:=by rw[<-I];exact List.set_getElem_self _
  have:=d m;rw[R]at this;exact this
 rw[gL,d];dsimp only;rw[show o+i*3+2=o+(i*3+2)from pm];have J:((c.toList.set (o+(i*3+2)) (S t)).drop o).take (l.length*3)=(((c.toList.drop o).take (l.length*3)).set (i*3+2) (S t)):=by
  apply oy;intro j;simp only[lN,qL,qN,aJ,aR,a1];by_cases u:j<l.length*3
  ·simp only[av u];by_cases C:i*3+2=j
   ·subst C;rw[av rfl,av rfl,av pm,av pm]
   rw[au pm,au C]
  simp only[au u];rw[au pm]
 rw[J,h6,k];rw[show i*3+2=((l.take i).flatMap dz).length+2from by rw[f],kp _ _ pm,Nat.add_sub_cancel_left];rfl
def KT (x:World)(t1 b:TypeId) c1 c2:ab ((x.alloc (.cells c1 t1)).alloc (.cells c2 b)).drew x.heap.size t1 c1.toList/\ab ((x.alloc (.cells c1 t1)).alloc (.cells c2 b)).drew (x.heap.size+1) b c2.toList:=by
 constructor
 ·have h:ab (x.alloc (.cells c1 t1)) x.heap.size t1 c1.toList:=aO x _;exact h.kept (aM (aF (ak _ none) _)) pu
 have h:ab ((x.alloc (.cells c1 t1)).alloc (.cells c2 b)) (x.alloc (.cells c1 t1)).heap.size b c2.toList:=aO _ _;have e:(x.alloc (.cells c1 t1)).heap.size=x.heap.size+1:=by show(x.heap.push _).size=_;rw[Array.size_push]
 rw[e]at h;exact h.kept (aM (ak _ none)) pu
def Vz (C:Cr Bg Hd Bu)(hC:bD C) x (A:LA)(l:Li Bg Bu)(h:dm x A l)(n:Nat)(m:Gr)(hm:l.air[n]?=some m)(b c:Int)(b' dst:Nat)(t:af)(hf:l.air.length<=60)(s:Int)(P:Ending->World->Prop)(hc:(s=5/\l.air.length=60/\P=λe y=>e= .returned (.int .i64 9)/\x.grownBy y none)\/(s=5/\l.air.length<60/\P=λe y=>e= .returned (.int .i64 0)/\∃A',dx x A y A' {l with air:=l.air++[m]})\/(s=6/\m.text≠[]/\m.text.length<=1100/\P=λe y=>e= .returned (.int .i64 0)/\∃A',dx x A y A' {l with air:=l.air.set n {m with text:=uN m.text b c}})\/((s=4/\P=λe y=>e= .returned (.int .i64 0)/\∃A',dx x A y A' {l with air:=l.air.eraseIdx n})\/(s=3/\∃q u K,m.dst=q+1/\l.nodes[q]?=some u/\l.nodes.length<=8/\dw K u.de/\K+5<=100000000/\m.src<4294967296/\m.text.length<=2000/\P=λe y=>(∃c:Int,e= .returned (.int .i64 c))/\∃A',dx x A y A' {nodes:=l.nodes.set q {u with de:=u.de.comes C m.src m.text},air:=l.air.eraseIdx n}))):
 Calls prog 43 #[ptr A.lk,iu s (n:Int) b c b' dst t] x P:=by
 have k:x.cell? ⟨A.lk,1,none⟩=some A.air:=ab.cell h.lk 1;obtain ⟨g,o,I,e,c0,c1,c2,c3⟩:=Hn h.air hm;have hn:n<l.air.length:=by
  rcases eR n l.air.length with e|e
  ·exact e
  rw[eE e]at hm;cases hm
 have HX:=Hq h;have J:=Hq e;have HM:=Hq hm;obtain ⟨L,hL⟩:=kq l.air.length;have HL:=Hq hL;rw[e,<-hL]at k;rw[<-hL]at hn;have HC:=Hq hc;clear hc;have k1:=λu=>Lib.cell?_alloc_some u k;have k2:=λu v=>Lib.cell?_alloc_some v (Lib.cell?_alloc_some u k);have d1:=λu=>Lib.cell?_alloc_some u c0;have d2:=λu v=>Lib.cell?_alloc_some v (Lib.cell?_alloc_some u c0);have e1:=λu=>Lib.cell?_alloc_some u c1;have e2:=λu v=>Lib.cell?_alloc_some v (Lib.cell?_alloc_some u c1);have f1:=λu=>Lib.cell?_alloc_some u c2;have f2:=λu v=>Lib.cell?_alloc_some v (Lib.cell?_alloc_some u c2);clear h e hm hL;unfold ptr iu S at*;go_enter func43,ntmps43;go_wp2_with fail;apply yQ (λz=>x.grownBy z none/\ab z x.heap.size 35 [.int .i64 s, .int .i64 n, .int .i64 b, .int .i64 c, .int .u32 b', .int .u32 dst, .string ⟨t.toArray⟩]/\ab z (x.heap.size+1) 41 [.int .u32 m.src, .int .u32 m.dst, .string ⟨m.text.toArray⟩])
 case h=>go_region;exact ⟨rfl,rfl,aM (aF (aF (ak _ _) _) _),(KT x _ _ _ _).1,(KT x _ _ _ _).2⟩
 case k=>
  intro x1 hz;obtain ⟨g1,z1,z2⟩:=hz;clear k1 k2 d1 d2 e1 e2 f1 f2;have R:=Hq (HX.out.new g1);have G1:=Hq g1;have Z1:=Hq z1;have Z2:=Hq z2;have k:x1.cell? ⟨A.lk,1,none⟩=some (.slice (some ⟨g,o,none⟩) L I):=by have:=ab.cell R.out.lk 1;rw[this,J.out,HL.out];rfl
  have kf:x1.frozen? ⟨A.lk,1,none⟩=false:=ab.frozen R.out.lk 1;obtain ⟨B,hB⟩:=kq x.heap.size;have HB:=Hq hB;rw[<-hB]at z1 z2⊢;have a0:=ab.cell z1 0;have a1:=ab.cell z1 1;have a2:=ab.cell z1 2;have a3:=ab.cell z1 3;have b0:=ab.cell z2 0;have b1:=ab.cell z2 1;have b2:=ab.cell z2 2;simp only[ov,pI]at a0 a1 a2 a3 b0 b1 b2;clear z1 z2 g1 hB c0 c1 c2;rcases HC.out with⟨rfl,q0,rfl⟩|⟨rfl,q0,rfl⟩|⟨rfl,h7,h8,rfl⟩|HD;all_goals clear HC
  ·have f6:L=60:=HL.out.trans q0;subst f6;go_wp2;go_ret;exact ⟨rfl,G1.out⟩
  ·have hd:decide ((L:Int)=60)=false:=by have:=HL.out;simp;omega
   have f9:((L:Int)==60)=false:=by have:=HL.out;rw[dC];omega
   have X:ab ((x1.alloc (.cells (dz m).toArray 41)).drew) x1.heap.size 41 (dz m):=aO x1.drew _;obtain ⟨v',y,hr,r1,r2,r3,_⟩:=Jd ((x1.alloc (.cells (dz m).toArray 41)).drew) A.air l.air (R.out.air.new (aM (aF (ak _ _) _))) m x1.heap.size X pm;have d0:A.air.ownBlock≠some A.lk:=λe=>by have:=(R.out.air.kind _ e).1;rw[R.out.lk.kind]at this;exact absurd (aH this) ut
   have Y:ab y A.lk 65 [A.nodes,A.air]:=(R.out.lk.kept (r:=none) (aM (aF (ak _ _) _)) pu).kept r2 d0.symm;have ky:y.cell? ⟨A.lk,1,none⟩=some A.air:=ab.cell Y 1;have j0:y.frozen? ⟨A.lk,1,none⟩=false:=ab.frozen Y 1;have k1:=λu=>Lib.cell?_alloc_some u k;have R1:=Hq r1;have R2:=Hq r2;have R3:=Hq r3;have HY:=Hq Y;rw[J.out,<-HL.out]at hr ky;obtain ⟨va,vc,hv⟩:=gj r1;have HV:=Hq hv;obtain ⟨L1,b5⟩:=kq ((l.air++[m]).length);rw[<-b5]at hv HV;subst hv;have HR:=Hq hr;clear r1 r2 r3 Y X hr HV b5;go_wp2_with fail;apply uS (λz=>z=y.setCell ⟨A.lk,1,none⟩ (.slice va L1 vc))
   case h=>go_region_law (refine QN rfl (.tmp 30) (.tmp 32) 36 rfl rfl _ _ _ y HR.out (by simp[Act.eval]) (by simp[Act.eval]) ?_);all_goals exact ⟨rfl,rfl⟩
   case k=>
    rintro z rfl;go_wp2;go_ret;have gx:=aw (ak y (some A.lk)) 1 (.slice va L1 vc);have W:ab (y.setCell ⟨A.lk,1,none⟩ (.slice va L1 vc)) A.lk 65 [A.nodes, .slice va L1 vc]:=HY.out.set 1 _;have O:aC x1 (y.setCell ⟨A.lk,1,none⟩ (.slice va L1 vc)) (A.lk::A.air.ownBlock.toList):=((aC.new (aM (aF (ak x1 none) (.cells (dz m).toArray 41))) _).trans ((aC.grown R2.out).mono (λi hi=>wY _ hi)) (λi hi=>Or.inl hi)).trans (aC.one gx (G:=A.lk::A.air.ownBlock.toList) pu) (λi hi=>Or.inl hi);have fH:eU (y.setCell ⟨A.lk,1,none⟩ (.slice va L1 vc)) (.slice va L1 vc) (l.air++[m]):=aZ.kept R1.out gx (by
     cases ho:(Value.slice va L1 vc).ownBlock with
     |none=>exact Or.inl rfl
     |some q=>refine Or.inr λe=>?_;obtain rfl:=aH e;have:=(R1.out.kind _ ho).1;rw[HY.out.kind]at this;exact absurd (aH this) ut)
    have S:=R.out.Er (v:= .slice va L1 vc) (air:=l.air++[m]) O (λb f=>by
     rcases bp.1 f with rfl|f
     ·exact Or.inl rfl
     ·exact Or.inr (by simpa using f)) W fH (λb f=>by
     rcases R3.out with e|e
     ·exact Or.inl (by rw[<-e];exact f)
     refine Or.inr ?_;rw[e]at f;have f:=aH f;rw[<-f];show _<=(x1.heap.push _).size;rw[Array.size_push];omega)
    exact ⟨rfl,_,(dx.new HX.out G1.out).trans S⟩
  ·skip
   obtain ⟨cp,x2,c8,d',a7,f8,c7⟩:=Ez x1 m.text pm;obtain ⟨D,hD⟩:=kq x1.heap.size;rw[<-hD]at c8 c7;obtain ⟨T,hT⟩:=kq m.text.length;have HT:=Hq hT;have T0:0<T:=by rw[hT];exact tE.2 h7
   rw[<-hT]at c8 d' h8;have HD:=Hq hD;have e8:=Hq a7;have c4:=Hq c7;have k':=a7.cell k pu;have p1:=a7.cell a1 pu;have p2:=a7.cell a2 pu;have p3:=a7.cell a3 pu;have z0:¬(T:Int)=0:=pm;clear hD hT a7 f8 c7 d';obtain ⟨q,hq⟩:=kq ((b.emod (T:Int)).toNat:Nat);have d8:(0:Int)<(T:Int):=pm;have e6:(q:Int)=b%(T:Int):=by rw[hq];exact BC (Int.emod_nonneg _ pm)
   have b4:q<T:=(by have:=Fa b d8;omega);have a8:=Int.tmod_eq_emod (a:=b) (b:=(T:Int));have d9:((UInt8.ofNat (c.emod 256).toNat).toNat:Int)=c%256:=by have h0:=Int.emod_nonneg c (show(256:Int)≠0 by decide);have h1:=Fa c (show(0:Int)<256 by decide);rw[uZ];show(((c%256).toNat%2^8:Nat):Int)=_;omega
   obtain ⟨a',b6⟩:∃a':UInt8,m.text[q]?=some a':=⟨m.text[q]'(by rw[<-HT.out];exact b4),aW _⟩;obtain ⟨m2,c'⟩:=kq (a'^^^UInt8.ofNat (c.emod 256).toNat:UInt8);have hx:=Rw a' (UInt8.ofNat (c.emod 256).toNat);rw[<-c',d9]at hx;have cq:x2.cell? ⟨D,q,none⟩=some (.int .u8 a'.toNat):=by have:=c4.out.cell q (by rw[<-HT.out];exact b4);rw[aW (by rw[<-HT.out];exact b4)]at b6;rw[aH b6]at this;exact this
   have cf:x2.frozen? ⟨D,q,none⟩=false:=c4.out.frozen q (by rw[<-HT.out];exact b4);have d7:uN m.text b c=m.text.set q m2:=by unfold uN;rw[<-HT.out,<-hq,c'];dsimp only;rw[dh,b6];rfl
   have f4:=Hq d7;clear d7 hq d9 c' b6;have i':IntKind.u8.wrap c=c%256:=(by rw[IntKind.wrap_u8]);have HN:(decide (b.tmod (T:Int)<0)=true/\wrap64 (b.tmod (T:Int)+(T:Int))=(q:Int))\/(decide (b.tmod (T:Int)<0)=false/\b.tmod (T:Int)=(q:Int)):=by
    by_cases g8:b.tmod (T:Int)<0
    ·refine Or.inl ⟨by simp;exact g8,?_⟩;rw[qO _ (by split at a8<;>omega)];split at a8
     ·omega
     rw[a8,e6];simp
    refine Or.inr ⟨pp,?_⟩;split at a8
    ·omega
    have:=Fa b d8;rw[Int.natAbs_natCast]at a8;omega
   have e7:(q:Int)<(T:Int):=pm;clear a8 e6;rcases HN with⟨g2,h3⟩|⟨g2,h3⟩;all_goals
    go_wp2_with fail;apply uS (λz=>gM z D (m.text.set q m2)/\x1.grownBy z none)
    case h=>go_region;all_goals exact ⟨rfl,(c4.out.set q m2 (by rw[<-HT.out];exact b4)).drew,aM (cj e8.out _ (by rw[HD.out];exact bm _) _)⟩
    case k=>
     intro z hz;obtain ⟨b7,U⟩:=hz;have a6:=Hq (R.out.new U);have GZ:=Hq U;obtain ⟨m3,b9⟩:=kq (m.text.set q m2);have e5:m3.length=T:=by rw[b9,gL];exact HT.out.symm
     rw[<-b9]at b7;have b8:=λW:World=>λhW:gM W D m3=>nJ hW cp;rw[e5]at b8;have i4:=b8 z b7;have i5:=b8 z.drew b7;have f0:=Hq (f4.out.trans b9.symm);have kz:=U.cell k pu;have az:=U.cell a1 pu;obtain ⟨g',o',i1,e',w0,w1,w2,w3⟩:=Hn a6.out.air HM.out;rw[J.out]at e';injection e' with e' _ e3;injection e' with e';injection e' with e' e4;subst e' e4 e3;clear b7 U b9 e5 b8 w0 w1 k a1 k' p1 p2 p3 c8;go_wp2_with fail;apply uS (λy=>y=(z.setCell ⟨g,o+n*3+2,none⟩ (.string ⟨m3.toArray⟩)).drew)
     case h=>go_region;all_goals exact ⟨rfl,rfl⟩
     case k=>
      rintro y rfl;go_wp2;go_ret;obtain ⟨g5,f7,h2⟩:=XS (J.out▸a6.out.air) HM.out m3;have d0:g≠A.lk:=λe=>by have:=(a6.out.air.kind g (by rw[J.out];rfl)).1;rw[e,a6.out.lk.kind]at this;exact absurd (aH this) ut
      have S:=a6.out.Er (v:=A.air) (air:=l.air.set n {m with text:=m3}) (h2.trans (aC.new (aM (ak _ none)) [g]) (λi hi=>Or.inl hi)) (λb f=>Or.inr (by rw[J.out,jG.1 f];rfl)) ((a6.out.lk.kept f7 (λe=>d0 (aH e).symm)).kept (aM (ak _ none)) pu) (by rw[J.out];exact aZ.new g5 (aM (ak _ _))) (λb f=>Or.inl f);rw[f0.out];exact ⟨rfl,_,((dx.new HX.out G1.out).trans (dx.new R.out GZ.out)).trans S⟩
  have HK:=Hq HD;have b3:s=4\/s=3:=HD.imp (λe=>e.1) (λe=>e.1);have h4:(s==5)=false:=by rcases b3 with e|e<;>rw[e]<;>rfl
  have h5:(s==6)=false:=by rcases b3 with e|e<;>rw[e]<;>rfl
  have f':decide (s=5)=false:=by rcases b3 with e|e<;>rw[e]<;>rfl
  have g0:decide (s=6)=false:=by rcases b3 with e|e<;>rw[e]<;>rfl
  clear HD b3;have b5:n<l.air.length:=by rw[<-HL.out];exact hn
  have AD:=λ(W:World) (gw:x1.grownBy W none)=>Um W l.air g o I (by rw[<-J.out];exact R.out.air.new gw) n b5;rw[<-HL.out]at AD;have e0:g≠A.lk:=λe=>by have:=(R.out.air.kind g (by rw[J.out];rfl)).1;rw[e,R.out.lk.kind]at this;exact absurd (aH this) ut
  have g3:g≠B:=λe=>by have:=(HX.out.air.kind g (by rw[J.out];rfl)).2;rw[e,HB.out]at this;omega
  have g6:A.lk≠B:=λe=>by have:=HX.out.lk.lt;rw[e,HB.out]at this;omega
  have SK:∀W:World,x1.grownBy W none->W.cell? ⟨A.lk,1,none⟩=some (.slice (some ⟨g,o,none⟩) L I)/\W.cell? ⟨B,1,none⟩=some (.int .i64 n):=λW gw=>⟨gw.cell k pu,gw.cell a1 pu⟩;have h':wrap64 ((n:Int)+1)=(n:Int)+1:=qO _ (by have:=HL.out;omega);have i6:IntKind.i64.wrap ((n:Int)+1)=(n:Int)+1:=(IntWalk.i64_left _).trans h';simp only[show((n+1:Nat):Int)=(n:Int)+1from pm]at AD;obtain ⟨V,hV⟩:=kq ((l.air.eraseIdx n).length);rw[<-hV]at AD;have HV:=Hq hV;clear hV;have SB:∀W z:World,x1.grownBy W none->W.grownBy z (some g)->eU z (.slice (some ⟨g,o,none⟩) V I) (l.air.eraseIdx n)->(z.cell? ⟨A.lk,1,none⟩=some (.slice (some ⟨g,o,none⟩) L I)/\z.frozen? ⟨A.lk,1,none⟩=false/\z.cell? ⟨B,1,none⟩=some (.int .i64 n))/\Hid (eU (z.setCell ⟨A.lk,1,none⟩ (.slice (some ⟨g,o,none⟩) V I)) (.slice (some ⟨g,o,none⟩) V I) (l.air.eraseIdx n)/\aC x1 (z.setCell ⟨A.lk,1,none⟩ (.slice (some ⟨g,o,none⟩) V I)) (A.lk::A.air.ownBlock.toList)/\ab (z.setCell ⟨A.lk,1,none⟩ (.slice (some ⟨g,o,none⟩) V I)) A.lk 65 [A.nodes, .slice (some ⟨g,o,none⟩) V I]/\ab (z.setCell ⟨A.lk,1,none⟩ (.slice (some ⟨g,o,none⟩) V I)) B 35 [.int .i64 s, .int .i64 n, .int .i64 b, .int .i64 c, .int .u32 b', .int .u32 dst, .string ⟨t.toArray⟩]/\ab (z.setCell ⟨A.lk,1,none⟩ (.slice (some ⟨g,o,none⟩) V I)) (B+1) 41 [.int .u32 m.src, .int .u32 m.dst, .string ⟨m.text.toArray⟩]):=λW z gw U gr=>by
   have Y:ab z A.lk 65 [A.nodes,A.air]:=(R.out.lk.kept gw pu).kept U (λe=>e0 (aH e).symm);have gx:=aw (ak z (some A.lk)) 1 (.slice (some ⟨g,o,none⟩) V I);have QA:=Z1.out;have QB:=Z2.out;rw[<-HB.out]at QA QB;have QA:=(QA.kept gw pu).kept U (λe=>g3 (aH e).symm);have g4:g≠B+1:=λe=>by have:=(HX.out.air.kind g (by rw[J.out];rfl)).2;rw[e,HB.out]at this;omega
   have g7:A.lk≠B+1:=λe=>by have:=HX.out.lk.lt;rw[e,HB.out]at this;omega
   have QB:=(QB.kept gw pu).kept U (λe=>g4 (aH e).symm);refine ⟨⟨by rw[ab.cell Y 1,J.out,HL.out];rfl,ab.frozen Y 1,ab.cell QA 1⟩,Hq ⟨aZ.kept gr gx (Or.inr (λe=>e0 (aH e))),?_,Y.set 1 _,QA.kept gx (λe=>g6 (aH e).symm),QB.kept gx (λe=>g7 (aH e).symm)⟩⟩;refine ((aC.new gw _).trans (aC.one U (G:=A.lk::A.air.ownBlock.toList) (by rw[J.out];simp[Value.ownBlock])) (λi hi=>Or.inl hi)).trans (aC.one gx (G:=A.lk::A.air.ownBlock.toList) pu) (λi hi=>Or.inl hi)
  go_wp2_with fail;apply uS (λz=>eU z (.slice (some ⟨g,o,none⟩) V I) (l.air.eraseIdx n)/\aC x1 z (A.lk::A.air.ownBlock.toList)/\ab z A.lk 65 [A.nodes, .slice (some ⟨g,o,none⟩) V I]/\ab z B 35 [.int .i64 s, .int .i64 n, .int .i64 b, .int .i64 c, .int .u32 b', .int .u32 dst, .string ⟨t.toArray⟩]/\ab z (B+1) 41 [.int .u32 m.src, .int .u32 m.dst, .string ⟨m.text.toArray⟩])
  case h=>
   go_region_with (first
    |(go_at_call 75;(with_reducible refine (AD x1.drew (aM (ak _ _))).mono ?_);rintro e z ⟨rfl,r1,r2⟩;obtain ⟨⟨kz,j1,az⟩,HZ⟩:=SB _ z (aM (ak _ _)) r2 r1))
   all_goals exact ⟨rfl,HZ.out⟩
  case k=>
   intro z hz;obtain ⟨r1,r2,r3,r4,r5⟩:=hz;have R1:=Hq r1;have R2:=Hq r2;have R3:=Hq r3;have R4:=Hq r4;have R5:=Hq r5;have kk:=ab.cell r4 0;simp only[ov]at kk;clear r1 r2 r3 r4 r5 SB SK AD;have S:=R.out.Er (v:= .slice (some ⟨g,o,none⟩) V I) (air:=l.air.eraseIdx n) R2.out (λb f=>by
    rcases bp.1 f with rfl|f
    ·exact Or.inl rfl
    exact Or.inr (by simpa using f)) R3.out R1.out (λb f=>Or.inl (by rw[J.out];exact f))
   have c5:=Hq S;clear S;rcases HK.out with⟨rfl,rfl⟩|⟨rfl,q,u,K,hq,hu,hN,ok,hK,h6,hs,rfl⟩;all_goals clear HK h4 h5 f' g0
   ·go_wp2;go_ret;exact ⟨rfl,_,(dx.new HX.out G1.out).trans c5.out⟩
   have HQ:=Hq hq;clear hq;have a4:=c5.out.li;obtain ⟨d,a5⟩:=a4.mN (i:=q) hu;have a9:=a4.no q d u a5 hu;obtain ⟨gn,on,cn,en,ec⟩:=a4.named a5;have kn:z.cell? ⟨A.lk,0,none⟩=some (.slice (some ⟨gn,on,none⟩) A.ns.length cn):=by have:=ab.cell a4.lk 0;rw[this];show some A.nodes=_;rw[show A.nodes=_ from en]
   have s:z.cell? ⟨d.nd,0,none⟩=some (ptr d.da.dev):=ab.cell a9.nd 0;have e7:q<A.ns.length:=by
    rw[a4.len];rcases eR q l.nodes.length with e|e
    ·exact e
    rw[eE e]at hu;cases hu
   have g9:A.ns.length<=8:=by rw[a4.len];exact hN
   obtain ⟨NL,d6⟩:=kq A.ns.length;rw[<-d6]at kn e7 g9;have b0:=ab.cell R5.out 0;have b1:=ab.cell R5.out 1;have b2:=ab.cell R5.out 2;simp only[ov,pI]at b0 b1 b2;rw[HQ.out]at b1;simp only[vl,BH]at b1;have i2:decide ((q:Int)+1<1)=false:=pp;have f9:decide ((NL:Int)<(q:Int)+1)=false:=pp;have AI:=λ(W:World) (gw:z.grownBy W none)=>Uy C hC W d.da d.ps u.de (a9.de.new gw) K ok hK m.src h6 m.text hs;have f3:=Hq a5;have d4:=Hq a4;have i0:=Hq a9;have i7:IntKind.u32.wrap ((q:Int)+1-1)=(q:Int):=by rw[show(q:Int)+1-1=(q:Int)from pm];exact pN _ pm
   have i8:IntKind.u32.wrap (q:Int)=(q:Int):=pN _ pm;have i9:(q:Int)%4294967296=(q:Int):=pm;have i3:(q:Int)<(NL:Int):=pm;have d5:∀b∈eA d.da d.ps,b<B:=λb f=>by obtain ⟨u0,h9⟩:=HX.out.Ar a5;rw[HB.out];exact ((HX.out.no q d u0 a5 h9).de.kinds b f).2
   have c6:∀b∈eA d.da d.ps,iX (cD z b)\/jM (cD z b):=λb f=>(a9.de.kinds b f).1;have n1:A.lk∉eA d.da d.ps:=λhm=>a4.Ir a5 (by simp[NA.fp,hm]);have n2:d.nd∉eA d.da d.ps:=λhm=>by have e:=c6 _ hm;rw[a9.nd.kind]at e;rcases e with(e|e|e|e|e|e|e)|(e|e|e|e|e)<;>first|exact absurd (aH e) ut|cases e
   have n3:gn∉eA d.da d.ps:=λhm=>by have e:=c6 _ hm;have hr:=(a4.row.kind gn (by show A.nodes.ownBlock=_;rw[show A.nodes=_ from en];rfl)).1;rw[hr]at e;rcases e with(e|e|e|e|e|e|e)|(e|e|e|e|e)<;>first|exact absurd (aH e) ut|cases e
   have n4:B+1∉eA d.da d.ps:=λhm=>by have:=d5 _ hm;omega
   have SC:∀y:World,(∃A' f5,aY z.drew.drew d.da d.ps y A' f5 (u.de.comes C m.src m.text))->y.cell? ⟨A.lk,0,none⟩=some (.slice (some ⟨gn,on,none⟩) NL cn)/\y.cell? ⟨gn,on+q,none⟩=some (ptr d.nd)/\y.cell? ⟨d.nd,0,none⟩=some (ptr d.da.dev)/\y.cell? ⟨B+1,0,none⟩=some (.int .u32 m.src)/\y.cell? ⟨B+1,1,none⟩=some (.int .u32 ((q:Int)+1))/\y.cell? ⟨B+1,2,none⟩=some (S m.text):=by rintro y ⟨A2,P2,d3⟩;have o:=d3.only;exact ⟨o.cell kn n1,o.cell ec n3,o.cell s n2,o.cell b0 n4,o.cell b1 n4,o.cell b2 n4⟩
   clear a5 a4 a9 d6 en d5 c6 n1 n2 n3 n4;unfold ptr S at*;go_wp2_with fail;apply uS (λy=>y=z.drew)
   case h=>go_region;all_goals exact ⟨rfl,rfl⟩
   case k=>
    rintro y rfl;go_wp2_with fail;go_region_held3 (λW=>W.cell? ⟨A.lk,0,none⟩=some (.slice (some ⟨gn,on,none⟩) NL cn)/\W.cell? ⟨gn,on+q,none⟩=some (.pointer (some ⟨d.nd,0,none⟩))/\W.cell? ⟨d.nd,0,none⟩=some (.pointer (some ⟨d.da.dev,0,none⟩))/\W.cell? ⟨B+1,0,none⟩=some (.int .u32 m.src)/\W.cell? ⟨B+1,1,none⟩=some (.int .u32 ((q:Int)+1))/\W.cell? ⟨B+1,2,none⟩=some (.string ⟨m.text.toArray⟩)) (first|exact ⟨kn,ec,s,b0,b1,b2⟩|exact hS) (first
     |(go_at_call 76;(with_reducible refine (AI z.drew.drew (aM (aM (ak _ _)))).mono ?_);rintro e y ⟨⟨cc,rfl⟩,c9⟩;have hS:=SC y c9))
    all_goals
     have e9:=Hq c9;clear c9 AI;go_wp2;go_ret;obtain ⟨A2,P2,d3⟩:=e9.out;have U:z.grownBy z.drew.drew none:=aM (aM (ak _ _));exact ⟨⟨_,rfl⟩,_,((dx.new HX.out G1.out).trans c5.out).trans ((dx.new d4.out U).trans ((d4.out.new U).device f3.out hu d3))⟩
def NF (w:World)(a:Option Addr)(n c:Nat):(binOp .eql 36 (.slice a n c) (.slice none 0 0)).run prog w= .ok (.bool a.isNone) w:=Lib.run_eql_slice_nil w _ 41 a n c 0 0 underlying36
def Y1 x v (l:List Gr)(h:eU x v l)(hl:l.length<=1000000000)(a:Addr)(n c:Nat)(hv:v= .slice (some a) n c):
 ∃d w',(Builtin.append_ #[36,36] 36 #[.slice (some ⟨x.heap.size,0,none⟩) 0 0,v]).run prog (x.alloc (.cells #[] 41))= .ok d w'/\eU w' d l/\x.grownBy w' none/\∀b,d.ownBlock=some b->x.heap.size<=b:=by
 obtain ⟨i0,hi,a4,a5,a6⟩:=mF Ie;subst hv;have h0:=h;rcases h.2with⟨e,_⟩|⟨g,o,a7,s,e,q,h3,h4,h5,R⟩
 ·cases e
 injection e with e t C;injection e with e;subst e t C;have a2:=h.1;have a3:∀(j:Nat) (u:Value),(l.flatMap dz)[j]?=some u->(x.alloc (.cells #[] 41)).cell? ((⟨g,o,none⟩:Addr).add j)=some u:=λj u f=>by
  have a0:(x.alloc (.cells #[] 41)).heap[g]?=some (.cells s 41 (0,0)):=by rw[BP x _ g (kE q)];exact q
  rw[qY,cK a0];rw[<-R,lN]at f;split at f
  ·simpa using f
  cases f
 obtain ⟨d,w',J,k,I,_,a8⟩:=run_append_own_at (P:=prog) (x.alloc (.cells #[] 41)) x.heap.size 36 36 41 i0 _ 3 24 underlying36 hi a4 a5 a6 rfl pm (.slice (some ⟨x.heap.size,0,none⟩) 0 0) 0 [] (World.ownsRow_made x #[] 0 (bm _) (by unfold maxLen;omega) pu) ⟨g,o,none⟩ l.length c (l.flatMap dz) a2 a3
  (by intro u hu;obtain ⟨y,_,r⟩:=mE.1 hu;simp only[dz,bp,dD,dH]at r;rcases r with rfl|rfl|rfl<;>rfl) (by unfold maxLen;omega) pm pu
 rw[ef,kP]at k;have a1:x.grownBy w' none:=cJ (aF (ak _ _) _) I pu;exact ⟨d,w',J,Pv k,a1,λb U=>(k.lt b U).1⟩
def Uh x v (l:List Gr)(h:eU x v l)(C:l.length<=1000000000):
 Calls prog 25 #[v] x (λe y=>∃c,e= .returned c/\eU y c l/\x.grownBy y none/\∀b,c.ownBlock=some b->x.heap.size<=b):=by
 rcases h.2with⟨e,U⟩|⟨g,o,t,R,e,_⟩
 ·subst e;have I:=NF;have s:=Hq h;clear h;go_enter func25,ntmps25;go_wp2;go_ret;exact ⟨_,rfl,s.out,ak _ _,λb u=>by cases u⟩
 obtain ⟨c,w',J,d,f,k⟩:=Y1 x v l h C ⟨g,o,none⟩ l.length t e;have I:=NF;have H1:=Hq d;have q:=Hq f;have r:=Hq k;subst e;clear h d f k;go_enter func25,ntmps25;go_wp2_with (at_builtin;refine zy 36 rfl _ _ _ _ c w' J rfl rfl rfl rfl ?_);go_wp2;go_ret;exact ⟨_,rfl,H1.out,q.out,r.out⟩
def xR x (A:LA)(l:Li Bg Bu)(h:dm x A l)(s:l.air.length<=1000000000):
 Calls prog 12 #[ptr A.lk] x (λe y=>∃c,e= .returned c/\eU y c l.air/\x.grownBy y none/\∀b,c.ownBlock=some b->x.heap.size<=b):=by
 have k:x.cell? ⟨A.lk,1,none⟩=some A.air:=ab.cell h.lk 1;have B:=Uh x A.air l.air h.air s;obtain ⟨a,t,o⟩:=gj h.air;rw[o]at k B;clear h o;unfold ptr;go_enter func12,ntmps12;go_wp2_with fail;refine B.mono ?_;rintro e y ⟨c,rfl,d,f,g⟩;have H1:=Hq d;have q:=Hq f;have r:=Hq g;clear d f g B;go_wp2;go_ret;exact ⟨_,rfl,H1.out,q.out,r.out⟩
def tn(ns:List NA)(n:Int):Value:=dO ((if 0<=n then ns[n.toNat]?else none).map NA.nd)
def IC {ns:List NA}(h:¬(0<=n/\n<ns.length)):tn ns n= .pointer none:=by
 unfold tn dO;split
 ·rw[eE pm];rfl
 rfl
def ID {ns:List NA}{a:NA}(h0:0<=n)(h:ns[n.toNat]?=some a):tn ns n=ptr a.nd:=by unfold tn dO ptr;rw[av h0,h];rfl
def vR x (A:LA)(l:Li Bg Bu)(h:dm x A l)(n:Int):
 Calls prog 29 #[ptr A.lk, .int .i64 n] x (λe y=>e= .returned (tn A.ns n)/\x=y):=by
 have k:x.cell? ⟨A.lk,0,none⟩=some A.nodes:=ab.cell h.lk 0;obtain ⟨a,t,c⟩:=gj h.row;by_cases u:n<0
 ·have b:=IC (ns:=A.ns) (n:=n) pm;rw[b];have d:decide (n<0)=true:=pp
  rw[c]at k;clear h c b;unfold ptr;go_enter func29,ntmps29;go_wp2_with fail;all_goals (go_ret;exact ⟨rfl,rfl⟩)
 have d:decide (n<0)=false:=pp
 by_cases C:(A.ns.length:Int)<=n
 ·have b:=IC (ns:=A.ns) (n:=n) pm;rw[b];have f:decide ((A.ns.length:Int)<=n)=true:=pp
  rw[c]at k;clear h c b;generalize A.ns.length=L at*;unfold ptr;go_enter func29,ntmps29;go_wp2_with fail;all_goals (go_ret;exact ⟨rfl,rfl⟩)
 have f:decide ((A.ns.length:Int)<=n)=false:=pp
 obtain ⟨q,r⟩:∃q:Nat,n=(q:Int):=⟨n.toNat,pm⟩;subst r;obtain ⟨m,hm⟩:∃m,A.ns[q]?=some m:=⟨A.ns[q]'(pm),aW _⟩;have b:=ID (ns:=A.ns) (n:=(q:Int)) pm (by simpa using hm);rw[b];obtain ⟨g,o,s,e,J⟩:=h.named hm;have I:q<A.ns.length:=pm
 rw[e]at k;clear h c b e hm;generalize A.ns.length=L at*;unfold ptr at*;go_enter func29,ntmps29;go_wp2_with fail;all_goals (go_ret;exact ⟨rfl,rfl⟩)
def TS x (A:LA)(l:Li Bg Bu)(h:dm x A l)(k a b c:Int)(d dst:Nat)(t:af)(I:¬(1<=k/\k<=7)):
 Calls prog 26 #[ptr A.lk,iu k a b c d dst t] x (λe y=>e= .returned (.int .i64 1)/\x.grownBy y none):=by
 have hF:=λo:Obj=>vR (x.alloc o) A l (h.new (aF (ak _ _) _)) a;have H:=Hq h;have f:decide (k=1)=false:=pp
 have J:(k==1)=false:=by rw[dC];omega
 have g:decide (k=2)=false:=pp
 have R:(k==2)=false:=by rw[dC];omega
 have q:decide (k=3)=false:=pp
 have U:(k==3)=false:=by rw[dC];omega
 have r:decide (k=4)=false:=pp
 have n4:(k==4)=false:=by rw[dC];omega
 have s:decide (k=5)=false:=pp
 have n5:(k==5)=false:=by rw[dC];omega
 have u:decide (k=6)=false:=pp
 have n6:(k==6)=false:=by rw[dC];omega
 have C:decide (k=7)=false:=pp
 have n7:(k==7)=false:=by rw[dC];omega
 clear h;unfold ptr iu S at*;go_enter func26,ntmps26;go_wp2_with fail;refine (hF _).mono ?_;rintro e y ⟨rfl,rfl⟩;clear hF;go_wp2;go_ret;exact ⟨rfl,aF (ak _ _) _⟩
def TR x (A:LA)(l:Li Bg Bu)(h:dm x A l)(k a b c:Int)(g dst:Nat)(t:af)(f:k=1\/k=7)(d:tn A.ns a= .pointer none):
 Calls prog 26 #[ptr A.lk,iu k a b c g dst t] x (λe y=>e= .returned (.int .i64 7)/\x.grownBy y none):=by
 rcases f with rfl|rfl;all_goals
  have hF:=λo:Obj=>vR (x.alloc o) A l (h.new (aF (ak _ _) _)) a;have H:=Hq h;rw[d]at hF;clear h;unfold ptr iu S at*;go_enter func26,ntmps26;go_wp2_with fail;refine (hF _).mono ?_;rintro e y ⟨rfl,rfl⟩;clear hF;go_wp2;go_ret;exact ⟨rfl,aF (ak _ _) _⟩
def TT x (A:LA)(l:Li Bg Bu)(h:dm x A l)(k a b c:Int)(r dst:Nat)(t:af)(d:k=3\/k=4\/k=5\/k=6)(f:a<0\/(0<=a/\(l.air.length:Int)<=a)):
 Calls prog 26 #[ptr A.lk,iu k a b c r dst t] x (λe y=>e= .returned (.int .i64 7)/\x.grownBy y none):=by
 rcases d with rfl|rfl|rfl|rfl<;>rcases f with f|f;all_goals
  have hF:=λo:Obj=>vR (x.alloc o) A l (h.new (aF (ak _ _) _)) a;have H:=Hq h;have d:x.cell? ⟨A.lk,1,none⟩=some A.air:=ab.cell h.lk 1;obtain ⟨J,R,q⟩:=gj h.air;rw[q]at d;have C:=λu=>Lib.cell?_alloc_some u d;obtain ⟨L,g⟩:=kq l.air.length;rw[<-g]at d C;try rw[<-g]at f
  first
   |have s:decide (a<0)=true:=pp
   |(have s:decide (a<0)=false:=by simp;omega
     have I:decide ((L:Int)<=a)=true:=pp)
  clear g q;clear h;unfold ptr iu S at*;go_enter func26,ntmps26;go_wp2_with fail;refine (hF _).mono ?_;rintro e y ⟨rfl,rfl⟩;clear hF;go_wp2_with fail;apply uS (λz=>z=(x.alloc (Obj.cells #[.int .i64 _, .int .i64 a, .int .i64 b, .int .i64 c, .int .u32 r, .int .u32 dst, .string ⟨t.toArray⟩] 35)).drew)
  case h=>go_region;all_goals exact ⟨rfl,rfl⟩
  case k=>rintro z rfl;go_wp2;go_ret;exact ⟨rfl,aM (aF (ak _ _) _)⟩
def TQ (Q:Ending->World->Prop) x (A:LA)(l:Li Bg Bu)(h:dm x A l)(k b c:Int)(f dst:Nat)(t:af)(d:k=3\/k=4\/k=5\/k=6)(n:Nat)(R:n<l.air.length)(q:∀y:World,x.grownBy y none->Calls prog 43 #[ptr A.lk,iu k (n:Int) b c f dst t] y (λe z=>(∃r:Int,e= .returned (.int .i64 r))/\Q e z)):
 Calls prog 26 #[ptr A.lk,iu k (n:Int) b c f dst t] x (λe y=>Q e y):=by
 rcases d with rfl|rfl|rfl|rfl;all_goals
  have hF:=λo:Obj=>vR (x.alloc o) A l (h.new (aF (ak _ _) _)) (n:Int);have H:=Hq h;have d:x.cell? ⟨A.lk,1,none⟩=some A.air:=ab.cell h.lk 1;obtain ⟨sa,sc,C⟩:=gj h.air;rw[C]at d;have J:=λu=>Lib.cell?_alloc_some u d;obtain ⟨L,g⟩:=kq l.air.length;rw[<-g]at d J R;have U:decide ((n:Int)<0)=false:=pu
  have a0:decide ((L:Int)<=(n:Int))=false:=pp
  have a1:decide (L<=n)=false:=pp
  clear g C;clear h;unfold ptr iu S at*;go_enter func26,ntmps26;go_wp2_with fail;refine (hF _).mono ?_;rintro e y ⟨rfl,rfl⟩;clear hF;go_wp2_with fail;apply uS (λz=>z=(x.alloc (Obj.cells #[.int .i64 _, .int .i64 n, .int .i64 b, .int .i64 c, .int .u32 f, .int .u32 dst, .string ⟨t.toArray⟩] 35)).drew)
  case h=>go_region;all_goals exact ⟨rfl,rfl⟩
  case k=>rintro z rfl;go_wp2_with fail;refine (q _ (aM (aF (ak _ _) _))).mono ?_;rintro e z ⟨⟨r,rfl⟩,s⟩;have I:=Hq s;clear s q;go_wp2_with fail;exact I.out
def TU (C:Cr Bg Hd Bu)(hC:bD C) x (A:LA)(l:Li Bg Bu)(h:dm x A l)(b c:Int)(f dst:Nat)(t:af)(i:Nat)(d:NA)(r:A.ns[i]?=some d)(u:No Bg Bu)(hu:l.nodes[i]?=some u)(K:Nat)(ok:dw K u.de)(hK:K+2<=100000000)(a9:f<4294967296)(a7:dst<4294967296)(a8:tV u.de):
 Calls prog 26 #[ptr A.lk,iu 1 (i:Int) b c f dst t] x (λe y=>e= .returned (.int .i64 ((u.de.send C f dst t).2:Nat))/\∃A',dx x A y A' {l with nodes:=l.nodes.set i {u with de:=(u.de.send C f dst t).1}}):=by
 have hF:=λo:Obj=>vR (x.alloc o) A l (h.new (aF (ak _ _) _)) (i:Int);have H:=Hq h;have hv:=ID (ns:=A.ns) (n:=(i:Int)) pm (by simpa using r);rw[hv]at hF;have g:=h.no i d u r hu;have kd:x.cell? ⟨d.nd,0,none⟩=some (ptr d.da.dev):=ab.cell g.nd 0;have b0:=λo=>Lib.cell?_alloc_some o kd;have a':=Hq g;have a4:=Hq r;have a2:∀b∈eA d.da d.ps,b<x.heap.size:=λb hb=>(g.de.kinds b hb).2;have n2:d.nd∉eA d.da d.ps:=λhm=>by have e:=(g.de.kinds _ hm).1;rw[g.nd.kind]at e;rcases e with(e|e|e|e|e|e|e)|(e|e|e|e|e)<;>first|exact absurd (aH e) ut|cases e
 have q:ab (x.alloc (.cells #[.int .i64 1, .int .i64 i, .int .i64 b, .int .i64 c, .int .u32 f, .int .u32 dst,S t] 35)) x.heap.size 35 [.int .i64 1, .int .i64 i, .int .i64 b, .int .i64 c, .int .u32 f, .int .u32 dst,S t]:=aO x _;have k:x.grownBy (x.alloc (.cells #[.int .i64 1, .int .i64 i, .int .i64 b, .int .i64 c, .int .u32 f, .int .u32 dst,S t] 35)) none:=aF (ak _ _) _;obtain ⟨x1,a1⟩:=kq (x.alloc (.cells #[.int .i64 1, .int .i64 i, .int .i64 b, .int .i64 c, .int .u32 f, .int .u32 dst,S t] 35));rw[<-a1]at q k;have AS:=λ(W:World) (gw:x1.grownBy W none)=>UL C hC W d.da d.ps u.de ((g.de.new k).new gw) K ok hK f dst a9 a7 t a8;have c0:=k.cell kd pu;have I:=ab.cell q 4;have J:=ab.cell q 5;have R:=ab.cell q 6;simp only[ov,pI]at I J R;have s:x.heap.size∉eA d.da d.ps:=λhm=>by have:=a2 _ hm;omega
 have SC:∀y:World,(∃A' a6,aY x1.drew d.da d.ps y A' a6 (u.de.send C f dst t).1)->y.cell? ⟨d.nd,0,none⟩=some (ptr d.da.dev)/\y.cell? ⟨x.heap.size,4,none⟩=some (.int .u32 f)/\y.cell? ⟨x.heap.size,5,none⟩=some (.int .u32 dst)/\y.cell? ⟨x.heap.size,6,none⟩=some (S t):=by rintro y ⟨A2,P2,a0⟩;have o:=a0.only;exact ⟨o.cell c0 n2,o.cell I s,o.cell J s,o.cell R s⟩
 clear a2 n2 s q;have G1:=Hq k;clear k kd;have a5:=Hq a1;clear r hv g a1;clear h;unfold ptr iu S at*;go_enter func26,ntmps26;go_wp2_with fail;refine (hF _).mono ?_;rintro e y ⟨rfl,rfl⟩;clear hF;go_wp2_with fail;rw[<-a5.out];go_region_held3 (λW=>W.cell? ⟨d.nd,0,none⟩=some (.pointer (some ⟨d.da.dev,0,none⟩))/\W.cell? ⟨x.heap.size,4,none⟩=some (.int .u32 f)/\W.cell? ⟨x.heap.size,5,none⟩=some (.int .u32 dst)/\W.cell? ⟨x.heap.size,6,none⟩=some (.string ⟨t.toArray⟩)) (first|exact ⟨c0,I,J,R⟩|exact hS) (first
  |(go_at_call 40;(with_reducible refine (AS x1.drew (aM (ak _ _))).mono ?_);rintro e y ⟨rfl,U⟩;have hS:=SC y U))
 all_goals
  have a3:=Hq U;clear U AS SC hS;go_wp2;go_ret;obtain ⟨A2,P2,a0⟩:=a3.out;have gz:x.grownBy x1.drew none:=aM G1.out;exact ⟨rfl,_,(dx.new H.out gz).trans ((H.out.new gz).device a4.out hu a0)⟩
def TP x (A:LA)(l:Li Bg Bu)(h:dm x A l)(b c:Int)(k dst:Nat)(t:af)(i:Nat)(d:NA)(q:A.ns[i]?=some d)(u:No Bg Bu)(hu:l.nodes[i]?=some u):
 Calls prog 26 #[ptr A.lk,iu 7 (i:Int) b c k dst t] x (λe y=>e= .returned (.int .i64 0)/\∃A',dx x A y A' {l with nodes:=l.nodes.set i {u with de:={u.de with dv:={u.de.dv with busy:=b==1}}}}):=by
 have hF:=λo:Obj=>vR (x.alloc o) A l (h.new (aF (ak _ _) _)) (i:Int);have H:=Hq h;have hv:=ID (ns:=A.ns) (n:=(i:Int)) pm (by simpa using q);rw[hv]at hF;have f:=h.no i d u q hu;have U:x.cell? ⟨d.nd,0,none⟩=some (ptr d.da.dev):=ab.cell f.nd 0;have a5:=λo=>Lib.cell?_alloc_some o U;have a3:=Hq f;have a2:=Hq q;have a0:∀b∈eA d.da d.ps,b<x.heap.size:=λb hb=>(f.de.kinds b hb).2;have n2:d.nd∉eA d.da d.ps:=λhm=>by have e:=(f.de.kinds _ hm).1;rw[f.nd.kind]at e;rcases e with(e|e|e|e|e|e|e)|(e|e|e|e|e)<;>first|exact absurd (aH e) ut|cases e
 have R:ab (x.alloc (.cells #[.int .i64 7, .int .i64 i, .int .i64 b, .int .i64 c, .int .u32 k, .int .u32 dst,S t] 35)) x.heap.size 35 [.int .i64 7, .int .i64 i, .int .i64 b, .int .i64 c, .int .u32 k, .int .u32 dst,S t]:=aO x _;have g:x.grownBy (x.alloc (.cells #[.int .i64 7, .int .i64 i, .int .i64 b, .int .i64 c, .int .u32 k, .int .u32 dst,S t] 35)) none:=aF (ak _ _) _;obtain ⟨x1,J⟩:=kq (x.alloc (.cells #[.int .i64 7, .int .i64 i, .int .i64 b, .int .i64 c, .int .u32 k, .int .u32 dst,S t] 35));rw[<-J]at R g;have AS:=λ(W:World) (gw:x1.grownBy W none)=>Uo W d.da u.de.dv ((f.de.new g).new gw).dv (b==1);have c0:=g.cell U pu;have r:=ab.cell R 2;simp only[ov,pI]at r;have n3:x.heap.size∉eA d.da d.ps:=λhm=>by have:=a0 _ hm;omega
 have SC:∀y:World,(∃A',gf x1.drew d.da y A' {u.de.dv with busy:=b==1})->y.cell? ⟨d.nd,0,none⟩=some (ptr d.da.dev)/\y.cell? ⟨x.heap.size,2,none⟩=some (.int .i64 b):=by rintro y ⟨A2,I⟩;have o:=I.only;exact ⟨o.cell c0 (λhm=>n2 (jF _ hm)),o.cell r (λhm=>n3 (jF _ hm))⟩
 clear a0 n2 n3 R;have G1:=Hq g;clear g U;have a4:=Hq J;clear q hv f J;clear h;unfold ptr iu S at*;go_enter func26,ntmps26;go_wp2_with fail;refine (hF _).mono ?_;rintro e y ⟨rfl,rfl⟩;clear hF;go_wp2_with fail;rw[<-a4.out];go_region_held3 (λW=>W.cell? ⟨d.nd,0,none⟩=some (.pointer (some ⟨d.da.dev,0,none⟩))/\W.cell? ⟨x.heap.size,2,none⟩=some (.int .i64 b)) (first|exact ⟨c0,r⟩|exact hS) (first
  |(go_at_call 41;(with_reducible refine (AS x1.drew (aM (ak _ _))).mono ?_);rintro e y ⟨rfl,C⟩;have hS:=SC y C))
 all_goals
  have a1:=Hq C;clear C AS SC hS;go_wp2;go_ret;obtain ⟨A2,I⟩:=a1.out;have s:x.grownBy x1.drew none:=aM G1.out;exact ⟨rfl,_,(dx.new H.out s).trans ((H.out.new s).device a2.out hu (aY.device (a3.out.de.new s) I))⟩
def UN (C:Cr Bg Hd Bu)(g:bD C) x (A:DA)(b:List PA)(d:De Bg Bu)(h:bX x A b d)(K:Nat)(ok:dw K d)(k:K+8<=100000000)(a:Int)(w:(Lit.int .i64 a).wf=true):
 Calls prog 42 #[ptr A.dev, .int .i64 a] x (λe y=>e= .returned (.int .i64 (wN a d:Nat))/\∃A' f,aY x A b y A' f (tk C a d)):=by
 have l:=ok.dv.now;unfold wN tk;by_cases c:0<=a/\a<=1099511627776-(d.dv.now:Int)
 ·rw[av c,av c];obtain ⟨n,rfl⟩:∃n:Nat,a=(n:Int):=⟨a.toNat,pm⟩;exact UM C g x A b d h K ok k n pm
 rw[au c,au c];refine (UO x A d.dv h.dv l a w pm).mono ?_;rintro e y ⟨rfl,rfl⟩;exact ⟨rfl,A,b,aY.refl h⟩
def dm.slice {A:LA}{l:Li Bg Bu}(h:dm x A l):∃a b,A.nodes= .slice a A.ns.length b/\A.ns.length<=b/\b<=maxLen:=by
 rcases h.row.2with⟨e,c⟩|⟨g,o,b,k,e,_,d,f,_⟩
 ·exact ⟨none,0,by rw[e,c],pm,pm⟩
 exact ⟨_,b,e,d,f⟩
def abC (a:Int)(d:De Bg Bu):wN a d<=1:=by unfold wN;split<;>omega
def TV (C:Cr Bg Hd Bu)(hC:bD C) x (A:LA)(l:Li Bg Bu)(h:dm x A l)(K:Nat)(ok:jJ K l)(hK:K+8<=100000000)(a b c:Int)(wa:(Lit.int .i64 a).wf=true)(q dst:Nat)(t:af):
 Calls prog 26 #[ptr A.lk,iu 2 a b c q dst t] x (λe y=>e= .returned (.int .i64 (yI l a l.nodes.length:Nat))/\∃A',dx x A y A' (qt l (tk C a) l.nodes.length)):=by
 have hF:=λo:Obj=>vR (x.alloc o) A l (h.new (aF (ak _ _) _)) a;have hz:ab (x.alloc (.cells #[.int .i64 2, .int .i64 a, .int .i64 b, .int .i64 c, .int .u32 q, .int .u32 dst,S t] 35)) x.heap.size 35 [.int .i64 2, .int .i64 a, .int .i64 b, .int .i64 c, .int .u32 q, .int .u32 dst,S t]:=aO x _;have g1:x.grownBy (x.alloc (.cells #[.int .i64 2, .int .i64 a, .int .i64 b, .int .i64 c, .int .u32 q, .int .u32 dst,S t] 35)) none:=aF (ak _ _) _;have k0:x.cell? ⟨A.lk,0,none⟩=some A.nodes:=ab.cell h.lk 0;obtain ⟨sa,b',a4,b6,c2⟩:=h.slice;rw[a4]at k0;have k1:=λo=>Lib.cell?_alloc_some o k0;have b2:=Hq a4;have b9:=Hq h.len;have H8:=ok.n;have b0:=Hq ok;obtain ⟨L,I⟩:=kq A.ns.length;have J:L=l.nodes.length:=I.trans h.len;rw[<-I]at k0 k1 b6;have HL:=Hq I;have b1:=Hq J;have c0:L<=8:=by rw[J];exact H8
 rw[<-J];have H:=Hq h;have hv:∃v,v=tn A.ns a:=⟨_,rfl⟩;obtain ⟨nv,a3⟩:=hv;rw[<-a3]at hF;have hp:∃z,nv= .pointer z:=by
  rw[a3];unfold tn dO;split
  ·exact ⟨_,rfl⟩
  exact ⟨_,rfl⟩
 obtain ⟨z,rfl⟩:=hp;obtain ⟨x1,a5⟩:=kq (x.alloc (.cells #[.int .i64 2, .int .i64 a, .int .i64 b, .int .i64 c, .int .u32 q, .int .u32 dst,S t] 35));rw[<-a5]at hz g1;have HZ:=Hq hz;have G1:=Hq g1;have b3:=Hq a5;obtain ⟨B,hB⟩:=kq x.heap.size;have HB:=Hq hB;rw[<-hB]at HZ;clear I J a4 h ok H8 a3 hz g1 a5 hB;unfold ptr iu S at*;go_enter func26,ntmps26;go_wp2_with fail;refine (hF _).mono ?_;rintro e y ⟨rfl,rfl⟩;clear hF;go_wp2_with fail;rw[<-b3.out,<-HB.out];clear k0 k1;go_loopw [4,50] (λv4 a6 wr=>∃i:Nat,i<=L/\a6= .int .i64 i/\v4= .int .i64 (yI l a i:Nat)/\∃A',Hid (dx x1 A wr A' (qt l (tk C a) i))/\Hid (ab wr B 35 [.int .i64 2, .int .i64 a, .int .i64 b, .int .i64 c, .int .u32 q, .int .u32 dst,S t])) (λ_ a6 _=>L-(intOf a6).toNat)
 case atStart=>exact ⟨0,pm,rfl,rfl,A,Hq (dx.refl (H.out.new G1.out)),HZ⟩
 case round=>
  obtain ⟨i,hi,rfl,rfl,A',f,r⟩:=hrel;by_cases b8:i<L
  ·have U:i<l.nodes.length:=by rw[<-b1.out];exact b8
   have hd:decide ((i:Int)<(L:Int))=true:=pp;have R:=OE l (tk C a) i U;obtain ⟨d,a0⟩:=f.out.li.mN R;obtain ⟨g,o,cp,s,b7⟩:=f.out.li.named a0;rw[f.out.e2,b2.out]at s;injection s with s e2 e3;subst s;have k:=f.out.li.no i d _ a0 R;obtain ⟨q1,q2,q3,q4⟩:=b0.out.de i _ (aW U);have kd:wr.cell? ⟨d.nd,0,none⟩=some (ptr d.da.dev):=ab.cell k.nd 0;have ka:=ab.cell r.out 1;simp only[ov,pI]at ka;have b5:∀b∈eA d.da d.ps,b<wr.heap.size:=λb hb=>(k.de.kinds b hb).2;have n2:d.nd∉eA d.da d.ps:=λhm=>by have e:=(k.de.kinds _ hm).1;rw[k.nd.kind]at e;rcases e with(e|e|e|e|e|e|e)|(e|e|e|e|e)<;>first|exact absurd (aH e) ut|cases e
   have n3:B∉eA d.da d.ps:=λhm=>by have e:=(k.de.kinds _ hm).1;rw[r.out.kind]at e;rcases e with(e|e|e|e|e|e|e)|(e|e|e|e|e)<;>first|exact absurd (aH e) ut|cases e
   have n4:B∉A'.fp:=λhm=>by have e:=(f.out.li.kinds _ hm).1;rw[r.out.kind]at e;rcases e with e|e|e|e|(e|e|e|e|e|e|e)|(e|e|e|e|e)<;>first|exact absurd (aH e) ut|cases e
   have gw:wr.grownBy wr.drew none:=aM (ak _ _);have AS:=UN C hC wr.drew d.da d.ps l.nodes[i].de (k.de.new gw) K q1 hK a wa;have SC:∀y:World,(∃A' b4,aY wr.drew d.da d.ps y A' b4 (tk C a l.nodes[i].de))->y.cell? ⟨d.nd,0,none⟩=some (ptr d.da.dev)/\y.cell? ⟨B,1,none⟩=some (.int .i64 a):=by rintro y ⟨A2,P2,a1⟩;have o:=a1.only;exact ⟨o.cell (gw.cell kd pu) n2,o.cell (gw.cell ka pu) n3⟩
   have a9:=a8 l (tk C a) i U;have a':=abD l a i U;have HA:=Hq R;have HN:=Hq a0;have HU:=Hq a9;have HT:=Hq a';have N4:=Hq n4;have c3:=abC a l.nodes[i].de;clear e2 e3 a0 R a9 a' k b5 n2 n3 n4 q1 q2 q3 q4 gw;unfold ptr S at*;generalize l.nodes[i]=u at*;go_wp2_with fail;go_region_held3 (λW=>W.cell? ⟨d.nd,0,none⟩=some (.pointer (some ⟨d.da.dev,0,none⟩))/\W.cell? ⟨B,1,none⟩=some (.int .i64 a)) (first|exact ⟨kd,ka⟩|exact hS) (first
    |(go_at_call 42;(with_reducible refine AS.mono ?_);rintro e y ⟨rfl,a2⟩;have hS:=SC y a2))
   all_goals
    have a7:=Hq a2;clear a2 AS SC hS kd ka b7;go_wp2_with fail;obtain ⟨A2,P2,a1⟩:=a7.out;have gw:wr.grownBy wr.drew none:=aM (ak _ _);have st:=(dx.new f.out.li gw).trans ((f.out.li.new gw).device HN.out HA.out a1);have e:({qt l (tk C a) i with nodes:=(qt l (tk C a) i).nodes.set i {u with de:=tk C a u.de}}:Li Bg Bu)=qt l (tk C a) (i+1):=by rw[HU.out];unfold Li.on;rw[HA.out]
    rw[e]at st;have H2:=Hq (f.out.trans st);have Z2:=Hq (st.only.bu r.out N4.out);clear st e a1 a7 f r;go_roundw
    case rel=>exact ⟨i+1,pm,by go_num,by rw[HT.out],_,H2,Z2⟩
    case measure=>simp[intOf];omega
  have hd:decide ((i:Int)<(L:Int))=false:=pp
  obtain rfl:i=L:=pm
  go_wp2;go_ret;exact ⟨rfl,A',(dx.new H.out G1.out).trans f.out⟩
end
section
open Go.RowKit Top
def kX(l:Li Bg Bu)(m:Nat):Li Bg Bu:=⟨(l.nodes.take m).map vO++l.nodes.drop m,(kW l.air (l.nodes.take m)).1⟩
def TH (l:Li Bg Bu)(m:Nat)(h:m<l.nodes.length):(kX l m).nodes[m]?=some l.nodes[m]:=by show((l.nodes.take m).map _++l.nodes.drop m)[m]?=_;rw[qI (by rw[cY,aJ];omega),cY,aJ,iF pm,il,qL];simp[h]
def Lm:∀(l:List (No Bg Bu)) (air:List Gr) (x:No Bg Bu),(kW air (l++[x])).1=iA (kW air l).1 x.de.dv.out
 |[],air,x=>rfl
 |y::l,air,x=>by rw[pL,kW,kW];exact Lm l _ x
def TI (l:Li Bg Bu)(m:Nat)(h:m<l.nodes.length):kX l (m+1)=⟨(kX l m).nodes.set m (vO l.nodes[m]),iA (kX l m).air l.nodes[m].de.dv.out⟩:=by
 unfold kX;dsimp only;have e:((l.nodes.take m).map vO).length=m:=by rw[cY,aJ];omega
 rw[fP h,jW,kp _ _ pm,e,il,dM,jV h,Lm];rfl
def TF (l:Li Bg Bu):kX l l.nodes.length=l.mP:=by unfold kX Li.mP;rw[pK,tI,ev,zK]
def YZ (air b:List Gr):iA air (b.take 0)=air:=by unfold iA;simp
def Of (air b:List Gr):(iA air b).length=air.length+min (60-air.length) b.length:=by unfold iA;rw[aK,aJ]
def YY (air b:List Gr)(j:Nat)(e:j<b.length)(h:(iA air (b.take j)).length<60):iA air (b.take (j+1))=iA air (b.take j)++[b[j]]:=by rw[Of,aJ]at h;have c:(b.take (j+1)).take (60-air.length)=b.take (j+1):=cE (by rw[aJ];omega);have d:(b.take j).take (60-air.length)=b.take j:=cE (by rw[aJ];omega);unfold iA;rw[c,d,fP e,dM]
def YW (air b:List Gr)(j:Nat)(c:j<b.length)(h:¬(iA air (b.take j)).length<60):iA air (b.take (j+1))=iA air (b.take j):=by rw[Of,aJ]at h;unfold iA;congr 1;rw[ku,ku,iF pm,iF pm]
def YV (air b:List Gr)(j:Nat)(c:j=b.length):iA air (b.take j)=iA air b:=by rw[c,pK]
variable{P:Program}
def X6 (w:World)(t k e:TypeId)(i:TypeInfo)(f:P.underlying t=some (.slice e))(d:P.info? e=some i)(base:Option Addr)(n b:Nat)(h:n<=b)(a:Option Addr)(c:Nat):
 (Builtin.append_ #[t,t] k #[.slice base n b, .slice a 0 c]).run P w= .ok (.slice base n b) w:=by
 cases a with
 |none=>cases base<;>simp[Builtin.append_,rV f,sizeOf,typeInfo,d,Builtin.lenOf,h,Builtin.firstCells,storeCells]
 |some a=>have g:=run_firstCells_some (P:=P) w i.size 0 a 0 c [] pu pu;cases base<;>simp[Builtin.append_,rV f,sizeOf,typeInfo,d,Builtin.lenOf,h,g,storeCells]
def X' w v u (l m:List Pk)(h:iI w v l)(k:iI w u m)(hl:l.length+m.length<=1000000000):
 ∃f w',(Builtin.append_ #[51,51] 51 #[v,u]).run prog w= .ok f w'/\iI w' f (l++m)/\w.grownBy w' v.ownBlock/\(f.ownBlock=v.ownBlock\/f.ownBlock=some w.heap.size):=by
 obtain ⟨t,q,a1,a2,a3⟩:=mF Od;by_cases hm:m=[]
 ·subst hm;obtain ⟨a,c,rfl⟩:=gj k;have hv:∃b d,v= .slice b l.length d/\l.length<=d:=by
   rcases h.2with⟨e,C⟩|⟨g,o,d,a4,e,_,I,_⟩
   ·exact ⟨none,0,by rw[e,C],pm⟩
   exact ⟨_,d,e,I⟩
  obtain ⟨b,d,rfl,R⟩:=hv;refine ⟨_,w,X6 w 51 51 54 t underlying51 q b l.length d R a c,by rw[ev];exact h,ak _ _,Or.inl rfl⟩
 have r:0<m.length:=tE.2 hm;obtain ⟨g,o,d,rfl,h1,h2,h3,h4,J⟩:=k.at r;have a0:=k.1;obtain ⟨f,w',r1,r2,r3,r4,_⟩:=wE (P:=prog) w 51 51 54 t _ 3 32 underlying51 q a1 a2 a3 rfl pm v l.length (l.flatMap nZ) h ⟨g,o,none⟩ m.length d (m.flatMap nZ) a0 (λj u U=>by rw[qY];exact J j u U)
  (by intro u hu;obtain ⟨y,_,s⟩:=mE.1 hu;simp only[nZ,bp,dD,dH]at s;rcases s with rfl|rfl|rfl<;>rfl) r (by unfold maxLen;omega) pm
 refine ⟨f,w',r1,?_,r3,r4⟩;unfold iI;rw[aK,qK];exact r2
end
section
open Go.RowKit Top
def gK(l:Li Bg Bu)(m:Nat)(u:No Bg Bu)(b:List Gr)(j:Nat):Li Bg Bu:=⟨(kX l m).nodes.set m {u with de:={u.de with dv:={u.de.dv with out:=[]}}},iA (kX l m).air (b.take j)⟩
def Jm {α:Type}:∀(l:List α) (i:Nat) (a b:α),(l.set i a).set i b=l.set i b
 |[],i,a,b=>rfl
 |x::l,0,a,b=>rfl
 |x::l,i+1,a,b=>by rw[ny,ny,ny,Jm l]
def Aa {l:List Gr}(h:eU x v l){m:Gr}(hm:l[i]?=some m):∃g o b,v= .slice (some ⟨g,o,none⟩) l.length b/\x.cell? ⟨g,o+i*3,none⟩=some (.int .u32 m.src)/\x.cell? ⟨g,o+i*3+1,none⟩=some (.int .u32 m.dst)/\x.cell? ⟨g,o+i*3+2,none⟩=some (S m.text):=by obtain ⟨g,o,b,e,c,d,f,_⟩:=Hn h hm;exact ⟨g,o,b,e,c,d,f⟩
def zm(x0:World)(A:DA)(d:Dv Bu)(h:Nat)(f v:Value)(gv:Value)(g:List Pk):Bool->Bool->World->Prop:=λb c x=>ab x h 69 [f,v]/\(b=false->c=false->x0.grownBy x none)/\(b=true->c=false->(∃e,gf x0 A x e d)/\iI x gv g)
def zm.new {x0}{A:DA}{d:Dv Bu}{o:Nat}{dv gv}{l:List Pk}:∀b c x y,zm x0 A d o dv v gv l b c x->x.grownBy y none->zm x0 A d o dv v gv l b c y:=λb c x y h g=>
 ⟨h.1.kept g pu,λe f=>ai (h.2.1 e f) g,λe f=>by obtain ⟨⟨q,k⟩,r⟩:=h.2.2 e f;exact ⟨⟨q,k.y' g⟩,aZ.new r g⟩⟩
def xE(x0:World)(A:DA)(b:Option Nat)(d:Dv Bu)(L:Nat)(l:List Pk):Value->World->Prop:=λv x=>∃e f z c,v= .slice e L f/\gf x0 A z c d/\iI x v l/\z.grownBy x b/\(v.ownBlock=b\/v.ownBlock=some z.heap.size)
def XU {b}(h:a.grownBy b none)(r:Option Nat):a.grownBy b r:=⟨h.os,h.tape,h.output,h.size,λi c _=>h.block i c pu⟩
def xE.new {x0}{A:DA}{b:Option Nat}{d:Dv Bu}{L:Nat}{l:List Pk}:∀v x y,xE x0 A b d L l v x->x.grownBy y none->xE x0 A b d L l v y:=by rintro v x y ⟨q,r,z,c,e,f,h,k,o⟩ g;exact ⟨q,r,z,c,e,f,aZ.new h g,ai k (XU g b),o⟩
def gf.base {A A':DA}{d:Dv Bu}(g:x.grownBy y none)(h:gf y A z A' d):gf x A z A' d:=
 ⟨h.dv,(aC.new g A.fp).trans h.only (λi f=>Or.inl f),h.e1,h.e2,h.e3,h.e4,h.e5,λb c=>(h.fa b c).imp id (λe=>bJ g.size e)⟩
def Vj x (A:LA)(l0 l:Li Bg Bu)(h0:dm x A l0)(k a b c:Int)(g0 dst:Nat)(t:af)(Q:Int->Prop)(h8:l.nodes.length<=8)(n4:l.air.length<=60)(i0:∀u∈l.nodes,u.all.length+u.de.dv.aE.length<=1000000000)(i':∀u∈l.nodes,u.de.dv.out.length<=1000000000)
 (hA:∀W:World,x.grownBy W none->Calls prog 26 #[ptr A.lk,iu k a b c g0 dst t] W (λe y=>(∃r:Int,e= .returned (.int .i64 r)/\Q r)/\∃A',dx W A y A' l)):
 Calls prog 13 #[ptr A.lk,iu k a b c g0 dst t] x (λe y=>(∃r:Int,e= .returned (.int .i64 r)/\Q r)/\∃A',dx x A y A' l.mP):=by
 have g1:x.grownBy (x.alloc (.cells #[.int .i64 k, .int .i64 a, .int .i64 b, .int .i64 c, .int .u32 g0, .int .u32 dst,S t] 35)) none:=aF (ak _ _) _;have e6:=hA _ g1;have G1:=Hq g1;have H0:=Hq h0;unfold iu at e6;clear hA g1 h0;unfold ptr iu S at*;go_enter func13,ntmps13;go_wp2_with fail;refine e6.mono ?_;rintro e y ⟨⟨r,rfl,hq⟩,A1,a3⟩;have HQ:=Hq hq;have h6:=Hq a3;obtain ⟨sa,n0,f9,l5,n5⟩:=a3.li.slice;have k0:y.cell? ⟨A.lk,0,none⟩=some A1.nodes:=by have:=ab.cell a3.li.lk 0;rw[a3.e1]at this;exact this
 rw[f9]at k0;have k7:=Hq f9;obtain ⟨L,hL⟩:=kq A1.ns.length;have e9:L=l.nodes.length:=hL.trans a3.li.len;rw[<-hL]at k0 l5;have HL:=Hq hL;have g9:=Hq e9;have n3:L<=8:=by rw[e9];exact h8
 have i6:A1.lk=A.lk:=a3.e1;have g7:=Hq i6;have j3:=Hq i0;have k4:=Hq i';clear e6 a3 hq f9 hL e9 h8 i6 i0 i';go_wp2_with fail;go_loopw [18] (λg3 wr=>∃i:Nat,i<=L/\g3= .int .i64 i/\∃A',Hid (dx y A1 wr A' (kX l i))) (λg3 _=>L-(intOf g3).toNat)
 case atStart=>exact ⟨0,pm,rfl,A1,Hq (dx.refl h6.out.li)⟩
 case round=>
  obtain ⟨i,R,rfl,A',a4⟩:=hrel;by_cases l':i<L
  ·have f1:i<l.nodes.length:=by rw[<-g9.out];exact l'
   have hd:decide ((i:Int)<(L:Int))=true:=pp;have d1:=TH l i f1;have f4:l.nodes[i]∈l.nodes:=iE f1;have m1:=k4.out _ f4;have l3:=j3.out _ f4;have j0:=TI l i f1;have k8:=Hq j0;obtain ⟨na,c4⟩:=a4.out.li.mN d1;obtain ⟨g,o,cp,e1,l6⟩:=a4.out.li.named c4;rw[a4.out.e2,k7.out]at e1;injection e1 with e1 e2 e3;subst e1;have c5:=a4.out.li.no i na _ c4 d1;have kd:wr.cell? ⟨na.nd,0,none⟩=some (ptr na.da.dev):=ab.cell c5.nd 0;have AO:=UI wr na.da _ c5.de.dv;obtain ⟨oa,oc,f'⟩:=gj c5.de.dv.out;rw[f']at AO;have i8:(A1.ns.map NA.nd)[i]?=some na.nd:=(by rw[<-a4.out.e3,fQ,c4];rfl);have k3:=Hq i8;have g':=Hq c5;have d9:=Hq c4;have HA:=Hq d1;have h5:=Hq f';clear e2 e3 c4 d1 c5 f' j0 f4 i8;generalize l.nodes[i]=u at*;obtain ⟨n,hn⟩:=kq u.de.dv.out.length;rw[<-hn]at AO m1;have HN:=Hq hn;clear hn;unfold ptr at*;go_wp2_with fail;refine AO.mono ?_;rintro e y2 ⟨rfl,a7,a6,a5⟩;have k5:=Hq a7;have d8:=(a4.out.trans (a4.out.li.device d9.out HA.out (aY.device g'.out.de a5)));have HX:Hid (∀b,(Value.slice oa n oc).ownBlock=some b->b<y2.heap.size/\A'.air.ownBlock≠some b):=Hq (λb f=>by
    have l4:na.da.out.ownBlock=some b:=by rw[h5.out,<-HN.out];exact f
    refine ⟨(a7.kind b f).2,λe=>a4.out.li.uM i na d9.out b e ?_⟩;simp[NA.fp,eA,DA.fp,l4])
   have hz:gK l i u u.de.dv.out 0=({kX l i with nodes:=(kX l i).nodes.set i {u with de:=⟨{u.de.dv with out:=[]},u.de.aI⟩}}:Li Bg Bu):=by unfold gK;rw[YZ]
   rw[<-hz]at d8;obtain ⟨A2,e7⟩:=kq ({A' with ns:=A'.ns.set i {na with da:=a6}}:LA);rw[<-e7]at d8;have h9:A2.air=A'.air:=(by rw[e7]);rw[<-h9]at HX;have k6:=Hq d8;clear a7 a5 d8 hz e7 h9 AO kd l6 a4 g' d9 HA h5;go_wp2_with fail;go_loopw [28] (λg4 wr=>∃j:Nat,j<=n/\g4= .int .i64 j/\∃A2,Hid (dx y A1 wr A2 (gK l i u u.de.dv.out j))/\Hid (eU wr (.slice oa n oc) u.de.dv.out)/\Hid (∀b,(Value.slice oa n oc).ownBlock=some b->b<wr.heap.size/\A2.air.ownBlock≠some b)) (λg4 _=>n-(intOf g4).toNat)
   case atStart=>exact ⟨0,pm,rfl,A2,k6,k5,HX⟩
   case round=>
    obtain ⟨j,hj,rfl,J,a1,a8,b4⟩:=hrel;by_cases l9:j<n
    ·have d5:j<u.de.dv.out.length:=by rw[<-HN.out];exact l9
     have l7:decide ((j:Int)<(n:Int))=true:=pp;obtain ⟨m,hm⟩:∃m,u.de.dv.out[j]?=some m:=⟨u.de.dv.out[j],aW d5⟩;have f2:u.de.dv.out[j]=m:=by rw[aW d5]at hm;exact aH hm
     obtain ⟨g2,o2,n1,e1,c0,c1,c2⟩:=Aa a8.out hm;injection e1 with e1 e2 e3;subst e1;clear e2 e3;have k1:wr.cell? ⟨A.lk,1,none⟩=some J.air:=by have:=ab.cell a1.out.li.lk 1;rw[a1.out.e1,g7.out]at this;exact this
     obtain ⟨aa,ca,b'⟩:=gj a1.out.li.air;obtain ⟨La,b9⟩:=kq ((gK l i u u.de.dv.out j).air.length);rw[b',<-b9]at k1;have g6:=Hq b9;have m7:=Hq b';have k2:=λo=>Lib.cell?_alloc_some o k1;have gw:wr.grownBy (wr.alloc (.cells (dz m).toArray 41)) none:=aF (ak _ _) _;have HM:=Hq hm;have j9:=Hq f2;by_cases n2:La<60
     ·have k':decide ((La:Int)<60)=true:=pp;have a9:=a1.out.li.new gw;obtain ⟨w3,c6⟩:=kq (wr.alloc (.cells (dz m).toArray 41));have hB:ab w3 wr.heap.size 41 (dz m):=by rw[c6];exact aO wr _
      rw[<-c6]at a9 gw;have b0:=ab.cell hB 0;have b1:=ab.cell hB 1;have b2:=ab.cell hB 2;simp only[dz,ov,pI]at b0 b1 b2;have kw:w3.cell? ⟨A.lk,1,none⟩=some (.slice aa La ca):=by rw[c6];exact k2 _
      have X:ab ((w3.alloc (.cells (dz m).toArray 41)).drew) w3.heap.size 41 (dz m):=aO w3.drew _;obtain ⟨U,yy,hr,r1,r2,r3,_⟩:=Jd ((w3.alloc (.cells (dz m).toArray 41)).drew) J.air (gK l i u u.de.dv.out j).air (a9.air.new (aM (aF (ak _ _) _))) m w3.heap.size X pm;have f0:J.lk=A.lk:=a1.out.e1.trans g7.out;have b7:ab w3 A.lk 65 [J.nodes,J.air]:=by rw[<-f0];exact a9.lk
      have i9:J.air.ownBlock≠some A.lk:=λe=>by have:=(a9.air.kind _ e).1;rw[b7.kind]at this;exact absurd (aH this) ut
      have Y:ab yy A.lk 65 [J.nodes,J.air]:=(b7.kept (r:=none) (aM (aF (ak _ _) _)) pu).kept r2 i9.symm;have ky:yy.cell? ⟨A.lk,1,none⟩=some J.air:=ab.cell Y 1;have m6:yy.frozen? ⟨A.lk,1,none⟩=false:=ab.frozen Y 1;have kf:w3.frozen? ⟨A.lk,1,none⟩=false:=ab.frozen b7 1;have R1:=Hq r1;have R2:=Hq r2;have R3:=Hq r3;have HY:=Hq Y;have j8:=Hq a9;have j7:=Hq b7;have g8:=Hq f0;have GW:=Hq gw;rw[b',<-b9]at hr ky;obtain ⟨s,C,hv⟩:=gj r1;have HV:=Hq hv;obtain ⟨I,b8⟩:=kq (((gK l i u u.de.dv.out j).air++[m]).length);rw[<-b8]at hv HV;subst hv;have HR:=Hq hr;have m5:=λo=>Lib.cell?_alloc_some o kw;have k9:=Hq c6;obtain ⟨B2,e8⟩:=kq wr.heap.size;have j6:=Hq e8;rw[<-e8]at b0 b1 b2;clear r1 r2 r3 Y X hr HV b8 a9 hB b7 i9 f0 gw c6 e8 b' b9 hm f2;unfold dz S at*;go_wp2_with fail;rw[<-k9.out,<-j6.out];clear k1 k2;apply uS (λz=>z=yy.setCell ⟨A.lk,1,none⟩ (.slice s I C))
      case h=>go_region_law (refine QN rfl (.tmp 42) (.tmp 44) 36 rfl rfl _ _ _ yy HR.out (by simp[Act.eval]) (by simp[Act.eval]) ?_);all_goals exact ⟨rfl,rfl⟩
      case k=>
       rintro z rfl;have gx:=aw (ak yy (some A.lk)) 1 (.slice s I C);have W:ab (yy.setCell ⟨A.lk,1,none⟩ (.slice s I C)) J.lk 65 [J.nodes, .slice s I C]:=by rw[g8.out];exact HY.out.set 1 _
       have gn:w3.grownBy (w3.alloc (.cells (dz m).toArray 41)).drew none:=aM (aF (ak _ _) _);have O:aC w3 (yy.setCell ⟨A.lk,1,none⟩ (.slice s I C)) (A.lk::J.air.ownBlock.toList):=((aC.new gn _).trans ((aC.grown R2.out).mono (λi R=>wY _ R)) (λi R=>Or.inl R)).trans (aC.one gx (G:=A.lk::J.air.ownBlock.toList) pu) (λi R=>Or.inl R);have fH:eU (yy.setCell ⟨A.lk,1,none⟩ (.slice s I C)) (.slice s I C) ((gK l i u u.de.dv.out j).air++[m]):=aZ.kept R1.out gx (by
        cases ho:(Value.slice s I C).ownBlock with
        |none=>exact Or.inl rfl
        |some q=>refine Or.inr λe=>?_;obtain rfl:=aH e;have:=(R1.out.kind _ ho).1;rw[HY.out.kind]at this;exact absurd (aH this) ut)
       have f7:(Value.slice s I C).ownBlock=J.air.ownBlock\/∃q,(Value.slice s I C).ownBlock=some q/\w3.heap.size<=q:=by
        rcases R3.out with e|e
        ·exact Or.inl e
        refine Or.inr ⟨_,e,?_⟩;show _<=(w3.heap.push _).size;rw[Array.size_push];omega
       have SK:=j8.out.Er (v:= .slice s I C) (air:=(gK l i u u.de.dv.out j).air++[m]) O (λb f=>by
        rcases bp.1 f with rfl|f
        ·exact Or.inl g8.out.symm
        ·exact Or.inr (by simpa using f)) W fH (λb f=>by
        rcases f7 with e|⟨q,e,hq⟩
        ·exact Or.inl (by rw[<-e];exact f)
        rw[e]at f;exact Or.inr (by rw[<-aH f];exact hq))
       have hz:gK l i u u.de.dv.out (j+1)=({gK l i u u.de.dv.out j with air:=(gK l i u u.de.dv.out j).air++[m]}:Li Bg Bu):=by unfold gK;dsimp only;rw[YY _ _ j d5 (by have:=g6.out;unfold gK at this;dsimp only at this;omega),j9.out]
       have b5:=Hq ((a1.out.trans (dx.new a1.out.li GW.out)).trans SK);rw[<-hz]at b5;have f8:eU (yy.setCell ⟨A.lk,1,none⟩ (.slice s I C)) (.slice (some ⟨g2,o2,none⟩) n oc) u.de.dv.out:=(a8.out.new GW.out).only O (λb f hm=>by
        rcases bp.1 hm with e|e
        ·have:=(a8.out.kind b f).1;have h3:=(a8.out.new GW.out).kind b f;rw[e,j7.out.kind]at h3;exact absurd (aH h3.1) ut
        exact (b4.out b f).2 (by simpa using e))
       have d':=Hq f8;have e0:Hid (∀b,(Value.slice (some ⟨g2,o2,none⟩) n oc).ownBlock=some b->b<(yy.setCell ⟨A.lk,1,none⟩ (.slice s I C)).heap.size/\({J with air:= .slice s I C}:LA).air.ownBlock≠some b):=Hq (λb f=>by
        have h3:=b4.out b f;refine ⟨(f8.kind b f).2,λe=>?_⟩;have e:(Value.slice s I C).ownBlock=some b:=e;rcases f7 with e2|⟨q,e2,hq⟩
        ·exact h3.2 (by rw[<-e2];exact e)
        rw[e2]at e;have:=GW.out.size;have:=aH e;omega)
       clear gx W gn O fH f7 SK hz f8 kw m5 ky m6 kf b0 b1 b2;go_wp2;go_roundw
       case rel=>exact ⟨j+1,pm,by go_num,_,b5,d',e0⟩
       case measure=>simp[intOf];omega
     have k':decide ((La:Int)<60)=false:=pp;have hz:gK l i u u.de.dv.out (j+1)=gK l i u u.de.dv.out j:=by unfold gK;rw[YW _ _ j d5 (by have:=g6.out;unfold gK at this;dsimp only at this;omega)]
     have b5:=Hq (a1.out.trans (dx.new a1.out.li gw));rw[<-hz]at b5;have d':=Hq (a8.out.new gw);have e0:Hid (∀b,(Value.slice (some ⟨g2,o2,none⟩) n oc).ownBlock=some b->b<(wr.alloc (.cells (dz m).toArray 41)).heap.size/\J.air.ownBlock≠some b):=Hq (λb f=>⟨fW (b4.out b f).1 gw.size,(b4.out b f).2⟩);clear hz gw hm f2 b9 b' a1 a8 b4;unfold dz S at*;go_wp2;go_roundw
     case rel=>exact ⟨j+1,pm,by go_num,_,b5,d',e0⟩
     case measure=>simp[intOf];omega
    have l7:decide ((j:Int)<(n:Int))=false:=pp;obtain rfl:j=n:=pm;have b3:=a1.out;have i5:u.de.dv.out.length=j:=HN.out.symm;have e':i<(kX l i).nodes.length:=by unfold kX;rw[aK,cY,aJ,aR];omega
    have d3:(gK l i u u.de.dv.out j).nodes[i]?=some {u with de:={u.de with dv:={u.de.dv with out:=[]}}}:=by unfold gK;exact kN e'
    obtain ⟨d,a'⟩:=b3.li.mN d3;have f5:d.nd=na.nd:=by have e:=k3.out;rw[<-b3.e3,fQ,a']at e;exact aH e
    have a0:=b3.li.no i d _ a' d3;obtain ⟨ga,gc,i4⟩:=gj a0.de.dv.aE;obtain ⟨la,lc,h'⟩:=gj a0.all;obtain ⟨a2,i2⟩:∃d2:Dv Bu,d2={u.de.dv with out:=[],aE:=[]}:=⟨_,rfl⟩;have g5:=Hq i2;have AG:∀x:World,wr.grownBy x none->Calls prog 28 #[ptr d.da.dev] x (λe y=>e= .returned d.da.aE/\iI y d.da.aE u.de.dv.aE/\∃A',gf x d.da y A' a2):=λx gx=>by refine (Ux x d.da _ (a0.de.dv.new gx)).mono ?_;rintro e y ⟨rfl,h1,A',h2⟩;refine ⟨rfl,h1,A',?_⟩;rw[g5.out];exact h2
    have f6:d.nd∉d.da.fp:=λhm=>by have e:=(a0.de.kinds _ (jF _ hm)).1;rw[a0.nd.kind]at e;rcases e with(e|e|e|e|e|e|e)|(e|e|e|e|e)<;>first|exact absurd (aH e) ut|cases e
    have d0:d.all.ownBlock≠some d.nd:=λe=>by have:=(a0.all.kind _ e).1;rw[a0.nd.kind]at this;exact absurd (aH this) ut
    obtain ⟨I,b8⟩:=kq ((u.all++u.de.dv.aE).length);have b6:∀z:World,(∃A',gf wr d.da z A' a2)->iI z d.da.aE u.de.dv.aE->∃s C w',(Builtin.append_ #[51,51] 51 #[d.all,d.da.aE]).run prog z= .ok (.slice s I C) w'/\iI w' (.slice s I C) (u.all++u.de.dv.aE)/\z.grownBy w' d.all.ownBlock/\((Value.slice s I C).ownBlock=d.all.ownBlock\/(Value.slice s I C).ownBlock=some z.heap.size):=by rintro z ⟨A',a3⟩ hz;obtain ⟨U,w',p1,p2,p3,p4⟩:=X' z d.all d.da.aE u.all u.de.dv.aE (a0.all.only a3.only (λb f hm=>a0.apart b f (jF _ hm))) hz l3;obtain ⟨s,C,hv⟩:=gj p2;rw[<-b8]at hv;subst hv;exact ⟨s,C,w',p1,p2,p3,p4⟩
    have c8:∀(z:World) (a6:DA) (U:Value) (w':World),gf wr d.da z a6 a2->iI w' U (u.all++u.de.dv.aE)->z.grownBy w' d.all.ownBlock->(U.ownBlock=d.all.ownBlock\/U.ownBlock=some z.heap.size)->∃A4,dx y A1 (w'.setCell ⟨d.nd,1,none⟩ U) A4 (kX l (i+1)):=by
     intro z a6 U w' a3 a7 d4 m2;have st:=b3.li.device a' d3 (aY.device a0.de a3);have l8:i<J.ns.length:=by
      rcases eR i J.ns.length with e|e
      ·exact e
      rw[eE e]at a';cases a'
     have i7:(J.ns.set i {d with da:=a6})[i]?=some {d with da:=a6}:=kN l8;have i1:(({gK l i u u.de.dv.out j with nodes:=(gK l i u u.de.dv.out j).nodes.set i {u with de:=⟨a2,u.de.aI⟩}}:Li Bg Bu)).nodes[i]?=some {u with de:=⟨a2,u.de.aI⟩}:=by refine kN ?_;unfold gK;dsimp only;rw[gL];exact e'
     have d6:=st.li.no i _ _ i7 i1;have gx:=aw (ak w' (some d.nd)) 1 U;have m0:d.all.ownBlock≠some d.nd:=λe=>by have:=(d6.all.kind _ e).1;rw[d6.nd.kind]at this;exact absurd (aH this) ut
     have hB:ab w' d.nd 69 [ptr a6.dev,d.all]:=d6.nd.kept d4 m0.symm;have O:aC z (w'.setCell ⟨d.nd,1,none⟩ U) (d.nd::d.all.ownBlock.toList):=((aC.grown d4).mono (λi R=>wY _ R)).trans (aC.one gx (G:=d.nd::d.all.ownBlock.toList) pu) (λi R=>Or.inl R);have fH:iI (w'.setCell ⟨d.nd,1,none⟩ U) U (u.all++u.de.dv.aE):=aZ.kept a7 gx (by
      cases ho:U.ownBlock with
      |none=>exact Or.inl rfl
      |some q=>refine Or.inr λe=>?_;obtain rfl:=aH e;have:=(a7.kind _ ho).1;rw[hB.kind]at this;exact absurd (aH this) ut)
     have hv:∀b,U.ownBlock=some b->({d with da:=a6}:NA).all.ownBlock=some b\/z.heap.size<=b:=λb f=>by
      rcases m2 with e|e
      ·exact Or.inl (by rw[<-e];exact f)
      rw[e]at f;exact Or.inr (by rw[<-aH f];exact bm _)
     have NG:=d6.aE (v:=U) (all:=u.all++u.de.dv.aE) O (λb f=>by
      rcases bp.1 f with rfl|f
      ·exact Or.inl rfl
      exact Or.inr (by simpa using f)) (hB.set 1 U) fH hv
     have LN:=st.li.node i7 i1 NG (O.mono (λb f=>by
      simp only[NA.fp,bp,bG,vg]at f⊢;rcases f with e|e
      ·exact Or.inl e
      ·exact Or.inr (Or.inl e))) rfl (λb f=>by
      simp only[NA.fp,bp,bG,vg]at f⊢;rcases f with e|e|e
      ·exact Or.inl (Or.inl e)
      ·rcases hv b e with e|e
       ·exact Or.inl (Or.inr (Or.inl e))
       exact Or.inr e
      exact Or.inl (Or.inr (Or.inr e)))
     have e:kX l (i+1)=({({gK l i u u.de.dv.out j with nodes:=(gK l i u u.de.dv.out j).nodes.set i {u with de:=⟨a2,u.de.aI⟩}}:Li Bg Bu)with nodes:=((gK l i u u.de.dv.out j).nodes.set i {u with de:=⟨a2,u.de.aI⟩}).set i {u with de:=⟨a2,u.de.aI⟩,all:=u.all++u.de.dv.aE}}:Li Bg Bu):=by rw[k8.out];unfold gK;dsimp only;rw[Jm,Jm,YV _ _ j i5.symm,g5.out];rfl
     rw[e];exact ⟨_,(b3.trans st).trans LN⟩
    have c7:ab wr d.nd 69 [ptr d.da.dev,d.all]:=a0.nd;have m9:=Hq f5;obtain ⟨ob,d7⟩:=kq d.all.ownBlock;rw[<-d7]at b6 c8 d0;have m':=Hq d7;rw[i4]at AG b6;rw[h']at b6 c7;rw[f5]at c7 c8 f6 d0;have K1:=Hq c8;have j':=Hq f6;have j4:=Hq d0;have i3:∀b∈d.da.fp++ob.toList,b<wr.heap.size:=λb f=>by
     rcases bG.1 f with e|e
     ·exact (a0.de.kinds _ (jF _ e)).2
     exact (a0.all.kind b (by rw[<-d7];simpa using e)).2
    have m8:=Hq i3;have j5:=Hq c7;clear b3 i5 e' d3 a' a0 i4 h' f6 d0 c8 b8 a1 a8 b4 f5 d7 i2 i3 c7;unfold ptr at*;go_wp2_with fail;apply Hy 13 9 1002 10 (λa b=>aC a b (d.da.fp++ob.toList)) (λb1 _ m z=>zm wr d.da a2 na.nd (.pointer (some ⟨d.da.dev,0,none⟩)) (.slice la u.all.length lc) (.slice ga u.de.dv.aE.length gc) u.de.dv.aE b1 m.isSome z/\∀v,m=some v->xE wr d.da ob a2 I (u.all++u.de.dv.aE) v z) _ qr qr (λx y g=>aC.new g _) (λx y z g k=>g.trans k (λi R=>Or.inl R)) (⟨⟨j5.out,λ_ _=>ak _ _,λe=>absurd e ut⟩,λ_ e=>by cases e⟩) (λ_ _ _ _ _ h g=>⟨zm.new _ _ _ _ h.1 g,λv e=>xE.new v _ _ (h.2 v e) g⟩);intro u0;iterate 9 (apply py;rfl;(intro b1 b2 m x c9 c' e4 e5 f3 c3 hg hr;first|(go_simp;exact aq)|(have m4:=ab.cell hr.1.1;go_simp;exact aq));simp only[aA])
    apply Jx rfl
    ·intro b1 b2 m x c9 c' e4 e5 f3 c3 hg hr;obtain rfl:=c' (Or.inl rfl);obtain rfl:=c3 (Or.inr qr);have gx:=hr.1.2.1 rfl rfl
     go_simp
     refine (AG x gx).mono ?_;rintro e y ⟨rfl,a7,A',a5⟩;exact gw (a5.only.mono (λi R=>jF _ R)) ⟨⟨a5.only.bu hr.1.1 j'.out,λe=>absurd e ut,λ_ _=>⟨⟨A',gf.base gx a5⟩,a7⟩⟩,λv e=>by cases e⟩
    simp only[aA];apply Jy (λv=>v) rfl
    ·intro b1 b2 m x c9 c' e4 e5 f3 c3 hg hr;obtain rfl:=c9 qr;obtain rfl:=c3 (Or.inl rfl);obtain ⟨⟨A',a5⟩,d4⟩:=hr.1.2.2 rfl rfl;obtain ⟨s,C,w',m3,q1,q2,q3⟩:=b6 x ⟨A',a5⟩ d4;refine zv 51 _ _ _ _ (.slice s I C) w' m3 rfl rfl rfl rfl ?_;exact gq ⟨0, .slice s I C⟩ ((aC.grown q2).mono (λi R=>nu _ R)) trivial ⟨⟨hr.1.1.kept q2 (λe=>j4.out e.symm),λ_ e=>(by cases e),λ_ e=>(by cases e)⟩,λv e=>⟨s,C,x,A',by cases e;rfl,a5,by cases e;exact q1,q2,by cases e;exact q3⟩⟩
    simp only[aA];iterate 2 (apply py;rfl;(intro b1 b2 m x c9 c' e4 e5 f3 c3 hg hr;first|(go_simp;exact aq)|(have m4:=ab.cell hr.1.1;go_simp;exact aq));simp only[aA])
    refine tz ?_;intro x hg hR;generalize (u0 10).v=j1 at*;obtain ⟨s,C,z,A',l2,h1,h2,h3,h4⟩:xE wr d.da ob a2 I (u.all++u.de.dv.aE) j1 x:=hR.2 j1 rfl;subst l2;have kk:x.cell? ⟨na.nd,1,none⟩=some (.slice la u.all.length lc):=ab.cell hR.1.1 1;have kf:=ab.frozen hR.1.1 1;obtain ⟨A4,h7⟩:=K1.out z A' (.slice s I C) x h1 h2 h3 h4;have j2:=Hq h7;clear h7 h1 h2 h3 h4 hR hg AG b6;go_wp2;go_roundw
    case rel=>exact ⟨i+1,pm,by go_num,_,j2⟩
    case measure=>simp[intOf];omega
  have hd:decide ((i:Int)<(L:Int))=false:=pp
  obtain rfl:i=L:=pm
  go_wp2;go_ret;refine ⟨⟨r,rfl,HQ.out⟩,A',?_⟩;have e:=a4.out;rw[g9.out,TF]at e;exact ((dx.new H0.out G1.out).trans h6.out).trans e
def EI(x:World)(A:LA)(r:Li Bg Bu×Option Nat)(e:Ending)(y:World):Prop:=(∃c:Int,e= .returned (.int .i64 c)/\∀m,r.2=some m->c=(m:Int))/\∃b,dx x A y b r.1
def TO (C:Cr Bg Hd Bu)(hC:bD C) x (A:LA)(l:Li Bg Bu)(h:dm x A l)(K:Nat)(ok:jJ K l)(hK:K+8<=100000000)(a9:∀u∈l.nodes,tV u.de)(a:Ac)(wa:(Lit.int .i64 a.a).wf=true)(a':a.src<4294967296)(a5:a.dst<4294967296):
 Calls prog 26 #[ptr A.lk,iu a.kind a.a a.b a.c a.src a.dst a.text] x (EI x A (l.act C a)):=by
 obtain ⟨k,n,b,c,f,dst,t⟩:=a;have a2:∀(m:Nat),l.act C ⟨k,n,b,c,f,dst,t⟩=(l,some m)->∀e y,e=Ending.returned (.int .i64 m)/\x.grownBy y none->EI x A (l.act C ⟨k,n,b,c,f,dst,t⟩) e y:=λm hm e y o=>by rw[hm];obtain ⟨rfl,g⟩:=o;exact ⟨⟨_,rfl,λm' e=>by rw[<-aH e]⟩,A,dx.new h g⟩
 by_cases R:k=1\/k=7
 ·cases hx:(if 0<=n then l.nodes[n.toNat]?else none)with
  |none=>
   have e:l.act C ⟨k,n,b,c,f,dst,t⟩=(l,some 7):=by unfold Li.act;dsimp only;rw[av R,hx]
   have hv:tn A.ns n= .pointer none:=IC (λq=>by rw[av q.1]at hx;have:=h.len;rw[aW pm]at hx;cases hx)
   exact (TR x A l h k n b c f dst t R hv).mono λe y o=>a2 7 ‹_› e y o
  |some u=>
   obtain ⟨i,rfl⟩:∃i:Nat,n=(i:Int):=⟨n.toNat,by
    split at hx
    ·omega
    cases hx⟩
   have a4:=hx;rw[av pm,xe]at hx;obtain ⟨na,a3⟩:=h.mN hx;obtain ⟨k1,k2,k3,k4⟩:=ok.de _ u hx;rcases R with rfl|rfl
   ·have e:l.act C ⟨1,(i:Int),b,c,f,dst,t⟩=({l with nodes:=l.nodes.set i {u with de:=(u.de.send C f dst t).1}},some (u.de.send C f dst t).2):=by unfold Li.act;dsimp only;rw[av (Or.inl rfl),a4];dsimp only;rw[av rfl,xe];unfold Li.on;rw[hx]
    rw[e];refine ax (TU C hC x A l h b c f dst t i na a3 u hx K k1 pm a' a5 (a9 u (dc hx))) λy I=>?_;exact ⟨⟨_,rfl,λm e=>by rw[<-aH e]⟩,I⟩
   have e:l.act C ⟨7,(i:Int),b,c,f,dst,t⟩=({l with nodes:=l.nodes.set i {u with de:={u.de with dv:={u.de.dv with busy:=b==1}}}},some 0):=by unfold Li.act;dsimp only;rw[av (Or.inr rfl),a4];dsimp only;rw[au ut,xe];unfold Li.on;rw[hx]
   rw[e];refine ax (TP x A l h b c f dst t i na a3 u hx) λy I=>?_;exact ⟨⟨_,rfl,λm e=>by rw[<-aH e];rfl⟩,I⟩
 by_cases J:k=2
 ·subst J;refine ax (TV C hC x A l h K ok hK n b c wa f dst t) λy I=>?_;refine ⟨⟨_,rfl,λm e=>?_⟩,by rw[RX C l _ rfl];exact I⟩;rw[RY C l _ rfl]at e;rw[<-aH e]
 by_cases h3:3<=k/\k<=6
 ·cases g:(if 0<=n then l.air[n.toNat]?else none)with
  |none=>
   have e:l.act C ⟨k,n,b,c,f,dst,t⟩=(l,some 7):=by unfold Li.act;dsimp only;rw[au R,au J,av h3,g]
   have hk:k=3\/k=4\/k=5\/k=6:=pm;refine (TT x A l h k n b c f dst t hk ?_).mono λe y o=>a2 7 ‹_› e y o;rcases Int.lt_or_le n 0with hn|hn
   ·exact Or.inl hn
   refine Or.inr ⟨hn,?_⟩;rcases Int.lt_or_le n (l.air.length:Int)with q|q
   ·rw[av hn,aW pm]at g;cases g
   exact q
  |some m=>
   obtain ⟨i,rfl⟩:∃i:Nat,n=(i:Int):=⟨n.toNat,by
    split at g
    ·omega
    cases g⟩
   have a6:=g;rw[av pm,xe]at g;have a7:i<l.air.length:=by
    rcases eR i l.air.length with e|e
    ·exact e
    rw[eE e]at g;cases g
   have a8:=ok.many;obtain ⟨b1,b2,b3,b4⟩:=ok.air m (dc g);have hN:=ok.n;have hk:k=3\/k=4\/k=5\/k=6:=pm;refine TQ _ x A l h k b c f dst t hk i a7 λy o=>?_;have hM:=Vz C hC y A l (h.new o) i m g b c f dst t a8 k;have a0:∀(l':Li Bg Bu) (r:Nat),l.act C ⟨k,(i:Int),b,c,f,dst,t⟩=(l',some r)->∀e z,e=Ending.returned (.int .i64 r)->(∃U,dx y A z U l')->(∃r:Int,e=Ending.returned (.int .i64 r))/\EI x A (l.act C ⟨k,(i:Int),b,c,f,dst,t⟩) e z:=λl' r h1 e z J ⟨U,I⟩=>by rw[h1];exact ⟨⟨_,J⟩,⟨_,J,λm e=>by rw[<-aH e]⟩,U,(dx.new h o).trans I⟩
   have act:l.act C ⟨k,(i:Int),b,c,f,dst,t⟩=(if k=5then(if l.air.length=60then(l,some 9)else({l with air:=l.air++[m]},some 0))else if k=6then({l with air:=l.air.set i {m with text:=uN m.text b c}},some 0)else if k=4then({l with air:=l.air.eraseIdx i},some 0)else if m.dst=0\/l.nodes.length<m.dst then({l with air:=l.air.eraseIdx i},some 13)else(({l with air:=l.air.eraseIdx i}:Li Bg Bu).on (m.dst-1) λd=>d.comes C m.src m.text,none)):=by unfold Li.act;dsimp only;rw[au R,au J,av h3,a6,xe]
   rcases hk with rfl|rfl|rfl|rfl
   ·have hu:l.nodes[m.dst-1]?=some l.nodes[m.dst-1]:=aW pm;obtain ⟨k1,k2,k3,k4⟩:=ok.de _ _ hu;rw[au ut,au ut,au ut,au pm]at act;unfold Li.on at act;dsimp only at act;rw[hu]at act;refine (hM _ (Or.inr (Or.inr (Or.inr (Or.inr ⟨rfl,m.dst-1,l.nodes[m.dst-1],K,pm,hu,hN,k1,pm,by have:=b1.2;omega,by have:=b4.2;omega,rfl⟩))))).mono ?_;rintro e z ⟨⟨r,rfl⟩,U,I⟩;rw[act];exact ⟨⟨r,rfl⟩,⟨r,rfl,λm e=>(by cases e)⟩,U,(dx.new h o).trans I⟩
   ·rw[au ut,au ut,av rfl]at act;exact (hM _ (Or.inr (Or.inr (Or.inr (Or.inl ⟨rfl,rfl⟩))))).mono λe z s=>a0 _ 0 act e z s.1 s.2
   ·by_cases a1:l.air.length=60
    ·rw[av rfl,av a1]at act;exact (hM _ (Or.inl ⟨rfl,a1,rfl⟩)).mono λe z s=>a0 _ 9 act e z s.1 ⟨A,dx.new (h.new o) s.2⟩
    rw[av rfl,au a1]at act;exact (hM _ (Or.inr (Or.inl ⟨rfl,pm,rfl⟩))).mono λe z s=>a0 _ 0 act e z s.1 s.2
   rw[au ut,av rfl]at act;exact (hM _ (Or.inr (Or.inr (Or.inl ⟨rfl,b4.1,b4.2,rfl⟩)))).mono λe z s=>a0 _ 0 act e z s.1 s.2
 have e:l.act C ⟨k,n,b,c,f,dst,t⟩=(l,some 1):=by unfold Li.act;dsimp only;rw[au R,au J,au h3]
 exact (TS x A l h k n b c f dst t pm).mono λe y o=>a2 1 ‹_› e y o
structure si(x:World)(A:LA)(K:Nat)(l:Li Bg Bu):Prop where
 at_:dm x A l
 ok:jJ K l
 em:Empty l
 rt:∀u∈l.nodes,tV u.de
def W9 (C:Cr Bg Hd Bu)(l:Li Bg Bu)(a:Ac)(h:∀u∈l.nodes,tV u.de):∀u∈(l.fF C a).nodes,tV u.de:=λu d=>by
 obtain ⟨i,c⟩:=nw d;have b:=WQ C l a;unfold rD at b;have e:((l.fF C a).nodes.map λx=>cfg x.de)[i]?=some (cfg u.de):=by rw[fQ,c];rfl
 rw[b,fQ]at e;cases hv:l.nodes[i]?with
 |none=>rw[hv]at e;cases e
 |some v=>rw[hv]at e;have e:cfg v.de=cfg u.de:=aH e;exact X0 e.symm (h v (dc hv))
def LB (C:Cr Bg Hd Bu)(f:bD C) x (A:LA)(l:Li Bg Bu)(K:Nat)(h:si x A K l)(g:K+8<=100000000)(a:Ac)(wa:(Lit.int .i64 a.a).wf=true)(a0:a.src<4294967296)(J:a.dst<4294967296):
 Calls prog 13 #[ptr A.lk,iu a.kind a.a a.b a.c a.src a.dst a.text] x (λe y=>(∃c:Int,e= .returned (.int .i64 c)/\∀m,(l.act C a).2=some m->c=(m:Int))/\∃A',dx x A y A' (l.fF C a)/\si y A' (K+8) (l.fF C a)):=by
 obtain ⟨d,h2⟩:=Ku C f h.ok g a;have R:=Kt C (K:=K) (l:=l) (λx r=>by obtain ⟨i,k⟩:=nw r;obtain ⟨_,_,_,t⟩:=h.ok.de i x k;rw[(h.em x r).2];simpa using t) a
 obtain ⟨s,g2,g3⟩:=MA C f h.ok h.em g a;have rt:=W9 C l a h.rt;refine (Vj x A l (l.act C a).1 h.at_ a.kind a.a a.b a.c a.src a.dst a.text (λc=>∀m,(l.act C a).2=some m->c=(m:Int)) d.n d.many (λu o=>by have:=R u o;omega) (λu o=>by obtain ⟨i,k⟩:=nw o;obtain ⟨k1,_,_,_⟩:=d.de i u k;have:=k1.dv.out;omega) (λW I=>(TO C f W A l (h.at_.new I) K h.ok g h.rt a wa a0 J))).mono ?_
 rintro e y ⟨U,A',q⟩;exact ⟨U,A',q,⟨q.li,s,g2,rt⟩⟩
def UU x v1 v2 (l:List Gr)(h1:eU x v1 l)(o:eU x v2 l)(hl:l.length<=1000000000):
 Calls prog 14 #[v1,v2] x (λe y=>e= .returned (.bool true)/\x.grownBy y none):=by
 obtain ⟨a1,c1,c⟩:=gj h1;obtain ⟨a2,c2,d⟩:=gj o;obtain ⟨n,r⟩:=kq l.length;rw[<-r]at c d;have HN:=Hq r;have H1:=Hq h1;have H2:=Hq o;have E1:=Hq c;have E2:=Hq d;have b5:n<=1000000000:=pm
 rw[c,d];clear h1 o r hl c d;go_enter func14,ntmps14;go_wp2_with fail;go_loopw [14] (λI wr=>∃i:Nat,i<=n/\I= .int .i64 i/\Hid (x.grownBy wr none)) (λI _=>n-(intOf I).toNat)
 case atStart=>exact ⟨0,pm,rfl,Hq (ak _ _)⟩
 case round=>
  obtain ⟨i,hi,rfl,g⟩:=hrel;by_cases a8:i<n
  ·have hd:decide ((i:Int)<(n:Int))=true:=pp;have a7:i<l.length:=by rw[<-HN.out];exact a8
   obtain ⟨m,hm⟩:∃m,l[i]?=some m:=⟨l[i],aW a7⟩;obtain ⟨g1,o1,p1,h,b0,b1,b2⟩:=Aa (aZ.new H1.out g.out) hm;obtain ⟨g2,o2,p2,k,R,U,d2⟩:=Aa (aZ.new H2.out g.out) hm;rw[E1.out]at h;rw[E2.out]at k;injection h with h a9 a';injection k with k b3 b4;subst h;subst k;clear a9 a' b3 b4;have b:wr.grownBy (wr.alloc (.cells #[.int .u32 m.src, .int .u32 m.dst,S m.text] 41)) none:=aF (ak _ _) _;have f:ab (wr.alloc (.cells #[.int .u32 m.src, .int .u32 m.dst,S m.text] 41)) wr.heap.size 41 [.int .u32 m.src, .int .u32 m.dst,S m.text]:=aO wr _;have t:=ab.cell f 0;have u:=ab.cell f 1;have C:=ab.cell f 2;simp only[ov,pI]at t u C;have a4:=b.cell R pu;have a5:=b.cell U pu;have a6:=b.cell d2 pu;have J:=Hq b;obtain ⟨w1,s⟩:=kq (wr.alloc (.cells #[.int .u32 m.src, .int .u32 m.dst,S m.text] 41));obtain ⟨B,q⟩:=kq wr.heap.size;rw[<-s]at t u C a4 a5 a6 J;rw[<-q]at t u C;have a3:=Hq s;have a0:=Hq q;clear s q f b R U d2;unfold S at*;go_wp2_with fail;rw[<-a3.out,<-a0.out];clear b0 b1 b2;go_region;all_goals
    go_wp2;go_roundw
    case rel=>exact ⟨i+1,pm,by go_num,Hq (ai g.out (aM J.out))⟩
    case measure=>simp[intOf];omega
  have hd:decide ((i:Int)<(n:Int))=false:=pp
  obtain rfl:i=n:=pm
  go_wp2;go_ret;exact ⟨rfl,g.out⟩
end
end Go.Proofs.YtmomfbkpniblgaaGreatDoor
