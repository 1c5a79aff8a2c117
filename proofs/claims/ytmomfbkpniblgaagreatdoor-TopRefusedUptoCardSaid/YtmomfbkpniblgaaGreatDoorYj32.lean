/- A part of this claim's proof. -/
import Derived.Test.YtmomfbkpniblgaaGreatDoorYj30
import Derived.Test.YtmomfbkpniblgaaGreatDoorYj25
set_option linter.all false
set_option maxHeartbeats 32000000
set_option maxRecDepth 20000
namespace Go.Proofs.YtmomfbkpniblgaaGreatDoor
open Go.Proofs.Tryz
variable {j m s:Nat}{w w' w0:World}
section
open Go.RowKit
def Si w (b a:Nat)(g:a=1\/a=2)(hash c key d:Lb)(n:Nat)(h:bj w b a hash c key n)(e:c.length<=32)(f:d.length<=9223372036854774000):
 Calls prog 269 #[.pointer (some ⟨b,0,none⟩),S d] w (kx w b a hash (gI a c d) (fM a c d) 0):=by
 rcases g with rfl|rfl
 ·exact Vx w b hash c key d n h e f
 exact Vy w b hash c key d n h e f
def Sh w (b a:Nat)(i:a=1\/a=2)(hash c key d:Lb)(n:Nat)(h:bj w b a hash c key n)(e:c.length<=32)(f:hash.length<=32)(g:d.length<=9223372036854774000):
 Calls prog 242 #[.pointer (some ⟨b,0,none⟩),S d] w (kx w b a (cx a (hash++fM a c d)) (gI a c d) (uD a c d) 0):=by
 rcases i with rfl|rfl
 ·exact Vu w b hash c key d n h e f g
 exact Vv w b hash c key d n h e f g
def Sk w (b a:Nat)(d:a=1\/a=2) hash chain key (n:Nat)(h:bj w b a hash chain key n)(c:chain.length<=32):
 Calls prog 243 #[.pointer (some ⟨b,0,none⟩)] w (Grown (.tuple #[S (gI a chain []),S (fM a chain [])]) w):=by
 rcases d with rfl|rfl
 ·exact VI w b hash chain key n h c
 exact VJ w b hash chain key n h c
def Sj w (b c:Nat)(l:c=1\/c=2)(hash f key a:Lb)(n:Nat)(h:bj w b c hash f key n)(d:key.length=32)(g:hash.length<=32)(i:n<18446744073709551000)(k:a.length<=2000):
 Calls prog 270 #[.pointer (some ⟨b,0,none⟩),S a] w (λe w'=>e= .returned (.tuple #[S (jS c key n hash a), .int .i64 0])/\bj w' b c (cx c (hash++jS c key n hash a)) f key (n+1)/\w.grownBy w' (some b)):=by
 have o:=Ej c key n hash a d;rcases l with rfl|rfl
 ·exact aaH w b hash f key a _ n h d g i pm λW=>Md W key (cF 1 n) hash a _ 0 λW=>GA W key (cF 1 n) hash a d (ki 1 n) pm k
 exact aaI w b hash f key a _ n h d g i pm λW=>Me W key (cF 2 n) hash a _ 0 λW=>LP W key (cF 2 n) hash a d (ki 2 n) pm k
def NS.hash(s:Nat)(x:NS)(t:Lb):NS:=⟨cx s (x.h++t),x.c,x.k,x.n⟩
def NS.key(s:Nat)(x:NS)(t:Lb):NS:=⟨x.h,gI s x.c t,fM s x.c t,0⟩
def NS.both(s:Nat)(x:NS)(t:Lb):NS:=(x.hash s t).key s t
def NS.aD(s:Nat)(x:NS)(t:Lb):NS:=⟨cx s (x.h++fM s x.c t),gI s x.c t,uD s x.c t,0⟩
def NS.ct(s:Nat)(x:NS)(t:Lb):Lb:=jS s x.k x.n x.h t
def NS.aG(s:Nat)(x:NS)(t:Lb):NS:=⟨cx s (x.h++x.ct s t),x.c,x.k,x.n+1⟩
def NS.ok.hash {x:NS}(o:x.ok) t:(x.hash s t).ok:=⟨oX _ _,o.c,o.n⟩
def NS.ok.key {x:NS}(o:x.ok) t:(x.key s t).ok/\(x.key s t).k.length=32:=⟨⟨o.h,DP _ _ _,by show 0<=1000;omega⟩,Ao _ _ _⟩
def NS.ok.both {x:NS}(o:x.ok) t:(x.both s t).ok/\(x.both s t).k.length=32:=(o.hash t).key t
def NS.ok.aD {x:NS}(o:x.ok) t:(x.aD s t).ok/\(x.aD s t).k.length=32:=⟨⟨oX _ _,DP _ _ _,by show 0<=1000;omega⟩,j9 _ _ _⟩
def NS.ok.aG {x:NS}(o:x.ok)(b:x.n<1000)(a:x.k.length=32) t:(x.aG s t).ok/\(x.aG s t).k.length=32:=⟨⟨oX _ _,o.c,by show x.n+1<=1000;omega⟩,a⟩
def NS.Mu {x:NS}(a:x.k.length=32) t:(x.ct s t).length=t.length+16:=Ej _ _ _ _ _ a
def gQ(w:World)(b s:Nat)(x:NS):Prop:=bj w b s x.h x.c x.k x.n
def gQ.kept {b:Nat}{x:NS}{r:Option Nat}(h:gQ w b s x)(g:w.grownBy w' r)(a:some b≠r):gQ w' b s x:=bj.kept h g a
def pS(w:World)(b s:Nat)(v:Value)(x:NS)(e:Ending)(w':World):Prop:=e= .returned v/\gQ w' b s x/\w.grownBy w' (some b)
def Iz w (b s:Nat)(a:s=1\/s=2)(x:NS)(o:x.ok)(t:Lb)(d:t.length<=9223372036854774000)(h:gQ w b s x):
 Calls prog 268 #[.pointer (some ⟨b,0,none⟩),S t] w (pS w b s (.tuple #[]) (x.hash s t)):=
 Vw w b s a x.h x.c x.k t x.n h (by rw[o.h];omega) d
def OQ w (b s:Nat)(a:s=1\/s=2)(x:NS)(o:x.ok)(t:Lb)(d:t.length<=9223372036854774000)(h:gQ w b s x):
 Calls prog 269 #[.pointer (some ⟨b,0,none⟩),S t] w (pS w b s (.tuple #[]) (x.key s t)):=
 Si w b s a x.h x.c x.k t x.n h (by rw[o.c];omega) d
def OP w (b s:Nat)(a:s=1\/s=2)(x:NS)(o:x.ok)(t:Lb)(d:t.length<=9223372036854774000)(h:gQ w b s x):
 Calls prog 242 #[.pointer (some ⟨b,0,none⟩),S t] w (pS w b s (.tuple #[]) (x.aD s t)):=
 Sh w b s a x.h x.c x.k t x.n h (by rw[o.c];omega) (by rw[o.h];omega) d
def x9 w (b s:Nat)(a:s=1\/s=2)(x:NS)(o:x.ok)(d:x.k.length=32)(t:Lb)(e:t.length<=2000)(h:gQ w b s x):
 Calls prog 270 #[.pointer (some ⟨b,0,none⟩),S t] w (pS w b s (.tuple #[S (x.ct s t), .int .i64 0]) (x.aG s t)):=
 Sj w b s a x.h x.c x.k t x.n h d (by rw[o.h];omega) (by have:=o.n;omega) e
def OS w (b s:Nat)(a:s=1\/s=2)(x:NS)(o:x.ok)(h:gQ w b s x):
 Calls prog 243 #[.pointer (some ⟨b,0,none⟩)] w (Grown (.tuple #[S (gI s x.c []),S (fM s x.c [])]) w):=
 Sk w b s a x.h x.c x.k x.n h (by rw[o.c];omega)
def sD(s:Nat)(a:Lb):NS:=⟨cx s (iK s++a),iK s,[],0⟩
def FI (s:Nat)(a:s=1\/s=2) pro:(sD s pro).ok:=⟨oX _ _,FH s a,by show 0<=1000;omega⟩
def OR w (s:Nat)(c:s=1\/s=2)(a:Lb)(d:a.length<=9223372036854774000):
 Calls prog 267 #[.int .i64 s,S a] w (λe w'=>∃b,e= .returned (.tuple #[.pointer (some ⟨b,0,none⟩), .int .i64 0])/\gQ w' b s (sD s a)/\w.grownBy w' none/\w.heap.size<=b):=
 VC w s c a d
def Ka(w:World)(m b:Nat):Prop:=ab w m 308 [.pointer (some ⟨b,0,none⟩), .int .i64 0]
structure Mx(w0 w:World)(m b s:Nat)(x:NS):Prop where
 mx:Ka w m b
 st:gQ w b s x
 ne:m≠b
 g:w0.grownBy w none
 lm:w0.heap.size<=m
 lb:w0.heap.size<=b
def Mx.cells {b:Nat}{x:NS}(h:Mx w0 w m b s x):w.cell? ⟨m,0,none⟩=some (.pointer (some ⟨b,0,none⟩))/\w.cell? ⟨m,1,none⟩=some (.int .i64 0)/\w.frozen? ⟨m,1,none⟩=false:=⟨ab.cell h.mx 0,ab.cell h.mx 1,ab.frozen h.mx 1⟩
def Mx.new {b:Nat}{x:NS}(h:Mx w0 w m b s x)(g:w.grownBy w' none):Mx w0 w' m b s x:=⟨ab.kept h.mx g pu,h.st.kept g pu,h.ne,ai h.g g,h.lm,h.lb⟩
def Mx.step {b:Nat}{x y:NS}(h:Mx w0 w m b s x)(a:gQ w' b s y)(g:w.grownBy w' (some b)):Mx w0 w' m b s y:=⟨ab.kept h.mx g (by simp;exact h.ne),a,h.ne,cJ h.g g h.lb,h.lm,h.lb⟩
def tj(s:Nat):Lb:=[115,111,117,116,101,114,114,97,105,110]++[UInt8.ofNat s]
def nG(s:Nat)(peer:Lb):NS:=(sD s (tj s)).hash s peer
def zA (s:Nat)(a:s=1\/s=2) peer:(nG s peer).ok:=(FI s a _).hash peer
def Wg w (peer:Lb)(l:peer.length<=9223372036854774000):
 Calls prog 220 #[.int .i64 1,S peer] w (λe w'=>∃m b,e= .returned (.pointer (some ⟨m,0,none⟩))/\Mx w w' m b 1 (nG 1 peer)):=by
 have p:(convert 83 9 (.slice (some ⟨w.heap.size,0,none⟩) 1 1)).run prog (w.alloc (.cells #[.int .u8 1] 5))= .ok (.string ⟨#[1]⟩) (w.alloc (.cells #[.int .u8 1] 5)):=uh w 1 1 rfl;have g:∀W:World,Calls prog 267 #[.int .i64 1, .string ⟨#[115,111,117,116,101,114,114,97,105,110,1]⟩] W (λe w'=>∃b,e= .returned (.tuple #[.pointer (some ⟨b,0,none⟩), .int .i64 0])/\gQ w' b 1 (sD 1 (tj 1))/\W.grownBy w' none/\W.heap.size<=b):=λW=>OR W 1 (Or.inl rfl) (tj 1) ut;have f:=λ(W:World) (b:Nat) (q:gQ W b 1 (sD 1 (tj 1)))=>Iz W b 1 (Or.inl rfl) _ (FI 1 (Or.inl rfl) _) peer l q;have u:ByteArray.mk #[115,111,117,116,101,114,114,97,105,110]++ByteArray.mk #[1]=⟨#[115,111,117,116,101,114,114,97,105,110,1]⟩:=rfl;unfold pS at f;unfold nG;generalize sD 1 (tj 1)=x at*;generalize x.hash 1 peer=y at*;clear l;unfold S at*;go_enter func220,ntmps220;go_wp2_with fail;refine (g _).mono ?_;rintro e t ⟨b,rfl,c,a,lb⟩;have h:=f t b c;have n:w.heap.size<=b:=by simp at lb;omega
 have o:=Hq (ai (aT w (.cells #[.int .u8 1] 5) none) a);clear g f c a p lb;go_wp2_with fail;refine h.mono ?_;rintro e d ⟨rfl,c,a⟩;have k:=Hq c;have i:=Hq (cJ o.out a n);clear h c a;go_wp2;go_ret;have r:=i.out.size;have lt:b<d.heap.size:=ab.lt k.out;exact ⟨d.heap.size,b,rfl,ab.new d _ _,k.out.kept (aT d _ none) pu,pm,aF i.out _,r,n⟩
def Wh w (peer:Lb)(l:peer.length<=9223372036854774000):
 Calls prog 220 #[.int .i64 2,S peer] w (λe w'=>∃m b,e= .returned (.pointer (some ⟨m,0,none⟩))/\Mx w w' m b 2 (nG 2 peer)):=by
 have p:(convert 83 9 (.slice (some ⟨w.heap.size,0,none⟩) 1 1)).run prog (w.alloc (.cells #[.int .u8 2] 5))= .ok (.string ⟨#[2]⟩) (w.alloc (.cells #[.int .u8 2] 5)):=uh w 2 2 rfl;have g:∀W:World,Calls prog 267 #[.int .i64 2, .string ⟨#[115,111,117,116,101,114,114,97,105,110,2]⟩] W (λe w'=>∃b,e= .returned (.tuple #[.pointer (some ⟨b,0,none⟩), .int .i64 0])/\gQ w' b 2 (sD 2 (tj 2))/\W.grownBy w' none/\W.heap.size<=b):=λW=>OR W 2 (Or.inr rfl) (tj 2) ut;have f:=λ(W:World) (b:Nat) (q:gQ W b 2 (sD 2 (tj 2)))=>Iz W b 2 (Or.inr rfl) _ (FI 2 (Or.inr rfl) _) peer l q;have u:ByteArray.mk #[115,111,117,116,101,114,114,97,105,110]++ByteArray.mk #[2]=⟨#[115,111,117,116,101,114,114,97,105,110,2]⟩:=rfl;unfold pS at f;unfold nG;generalize sD 2 (tj 2)=x at*;generalize x.hash 2 peer=y at*;clear l;unfold S at*;go_enter func220,ntmps220;go_wp2_with fail;refine (g _).mono ?_;rintro e t ⟨b,rfl,c,a,lb⟩;have h:=f t b c;have n:w.heap.size<=b:=by simp at lb;omega
 have o:=Hq (ai (aT w (.cells #[.int .u8 2] 5) none) a);clear g f c a p lb;go_wp2_with fail;refine h.mono ?_;rintro e d ⟨rfl,c,a⟩;have k:=Hq c;have i:=Hq (cJ o.out a n);clear h c a;go_wp2;go_ret;have r:=i.out.size;have lt:b<d.heap.size:=ab.lt k.out;exact ⟨d.heap.size,b,rfl,ab.new d _ _,k.out.kept (aT d _ none) pu,pm,aF i.out _,r,n⟩
def Mi w (s:Nat)(c:s=1\/s=2)(peer:Lb)(a:peer.length<=9223372036854774000):
 Calls prog 220 #[.int .i64 s,S peer] w (λe w'=>∃m b,e= .returned (.pointer (some ⟨m,0,none⟩))/\Mx w w' m b s (nG s peer)):=by
 rcases c with rfl|rfl
 ·exact Wg w peer a
 exact Wh w peer a
structure Met where
 s:Nat
 own:Lb
 fA:Lb
 aD:Lb
 once:Lb
 other:Lb
 aj:Nat
 fD:Nat
 index:Nat
 id:Nat
structure Met.ok(t:Met):Prop where
 s:t.s=1\/t.s=2
 own:t.own.length=32
 fA:t.fA.length=32
 aD:t.aD.length=32
 once:t.once.length=32
 other:t.other.length=32
 aj:t.aj=1\/t.aj=2
 fD:t.fD=1\/t.fD=2
 index:t.index<4294967296
 id:t.id<4294967296
def Met.PP(t:Met):Lb:=cS t.fA eB
def Met.PS(t:Met):Lb:=cS t.own eB
def Met.PO(t:Met):Lb:=cS t.once eB
def Met.rest(t:Met):Lb:=rN 7 9++[UInt8.ofNat t.aj]
def Met.x0(t:Met):NS:=nG t.s t.PP
def Met.x1(t:Met):NS:=t.x0.both t.s t.PO
def Met.x2(t:Met):NS:=t.x1.key t.s (cS t.once t.PP)
def Met.x3(t:Met):NS:=t.x2.aG t.s t.PS
def Met.x4(t:Met):NS:=t.x3.key t.s (cS t.own t.PP)
def Met.b(t:Met):Lb:=t.x4.ct t.s t.rest
def Met.U9 (t:Met):t.rest.length=13:=by unfold Met.rest rN;rw[aK,aK,fw,fw];rfl
def Met.ok.o0 {t:Met}(o:t.ok):t.x0.ok:=zA _ o.s _
def Met.ok.o1 {t:Met}(o:t.ok):t.x1.ok:=(o.o0.both _).1
def Met.ok.o2 {t:Met}(o:t.ok):t.x2.ok/\t.x2.k.length=32:=o.o1.key _
def Met.ok.o3 {t:Met}(o:t.ok):t.x3.ok/\t.x3.k.length=32:=o.o2.1.aG (by show 0<1000;omega) o.o2.2 _
def Met.ok.o4 {t:Met}(o:t.ok):t.x4.ok/\t.x4.k.length=32:=o.o3.1.key _
def Met.ok.lb {t:Met}(o:t.ok):t.b.length=29:=by have:=NS.Mu (s:=t.s) o.o4.2 t.rest;rw[t.U9]at this;exact this
def Mo {g:Nat}(c:UInt8)(N:Int)(k:(c.toNat:Int)=N)(b:s=1\/s=2)(h:ab w g 5 [.int .u8 N, .int .u8 s]):(convert 83 9 (.slice (some ⟨g,0,none⟩) 2 2)).run prog w= .ok (S [c,UInt8.ofNat s]) w:=by
 have a:((UInt8.ofNat s).toNat:Int)=(s:Int):=by rcases b with e|e<;>rw[e]<;>rfl
 have f:gM w g [c,UInt8.ofNat s]:=λi l=>by
  have d:i=0\/i=1:=by simp at l;omega
  rcases d with rfl|rfl
  ·exact ⟨by rw[ab.cell h 0,<-k];rfl,ab.frozen h 0⟩
  exact ⟨by rw[ab.cell h 1,<-a];rfl,ab.frozen h 1⟩
 exact nJ f 2
structure MS where
 x:NS
 e:Nat
structure MS.dI(j:Nat)(M:MS):Prop where
 ok:M.x.ok
 k:M.x.k.length=32
 n:M.x.n<=j
 e:M.e<=15
def NS.opened(s:Nat)(x:NS)(c:Lb):NS:=⟨cx s (x.h++c),x.c,x.k,x.n+1⟩
def MS.bt(s:Nat)(M:MS)(k u:Lb):MS:=if M.e=0then(if cS k u=aP 0 32then⟨M.x,12⟩else⟨M.x.key s (cS k u),0⟩)else M
def MS.kK(s:Nat)(M:MS)(t:Lb):MS:=if M.e=0then⟨M.x.aG s t,0⟩else M
def MS.qB(s:Nat)(M:MS)(t:Lb):Lb:=if M.e=0then M.x.ct s t else []
def iW(c:Lb):Nat:=if c.length<16then 4 else 6
def MS.open(s:Nat)(M:MS)(c:Lb):MS:=if M.e=0then(match mv s M.x.k M.x.n M.x.h c with|none=>⟨M.x,iW c⟩|some t=>⟨M.x.opened s c,0⟩)else M
def MS.nW(s:Nat)(M:MS)(c:Lb):Lb:=if M.e=0then(match mv s M.x.k M.x.n M.x.h c with|none=>[]|some t=>t)else []
def MS.both(s:Nat)(M:MS)(t:Lb):MS:=⟨M.x.both s t,M.e⟩
def MS.aD(s:Nat)(M:MS)(t:Lb):MS:=⟨M.x.aD s t,M.e⟩
def MS.dI.both {M:MS}(o:M.x.ok)(a:M.e<=15)(s j:Nat) t:(M.both s t).dI j:=⟨(o.both t).1,(o.both t).2,fE _,a⟩
def MS.dI.aD {M:MS}(o:M.x.ok)(a:M.e<=15)(s j:Nat) t:(M.aD s t).dI j:=⟨(o.aD t).1,(o.aD t).2,fE _,a⟩
def MS.dI.bt {M:MS}(o:M.dI j)(s:Nat) k u:(M.bt s k u).dI j:=by
 unfold MS.bt;split
 ·split
  ·exact ⟨o.ok,o.k,o.n,by show 12<=15;omega⟩
  exact ⟨(o.ok.key _).1,(o.ok.key _).2,fE _,fE _⟩
 exact o
def MS.dI.kK {M:MS}(o:M.dI j)(c:j<1000)(s:Nat) t:(M.kK s t).dI (j+1):=by
 have d:=o.n;unfold MS.kK;split
 ·obtain ⟨a,b⟩:=o.ok.aG (s:=s) pm o.k t;exact ⟨a,b,by show M.x.n+1<=j+1;omega,fE _⟩
 exact ⟨o.ok,o.k,pm,o.e⟩
def MS.dI.open {M:MS}(o:M.dI j)(a:j<1000)(s:Nat) c:(M.open s c).dI (j+1):=by
 have b:=o.n;unfold MS.open;split
 ·split
  ·exact ⟨o.ok,o.k,by show M.x.n<=j+1;omega,by show iW c<=15;unfold iW;split<;>omega⟩
  exact ⟨⟨oX _ _,o.ok.c,by show M.x.n+1<=1000;omega⟩,o.k,by show M.x.n+1<=j+1;omega,fE _⟩
 exact ⟨o.ok,o.k,pm,o.e⟩
structure bF(w0 w:World)(m b s:Nat)(M:MS):Prop where
 mx:ab w m 308 [.pointer (some ⟨b,0,none⟩), .int .i64 M.e]
 st:gQ w b s M.x
 ne:m≠b
 g:w0.grownBy w none
 lm:w0.heap.size<=m
 lb:w0.heap.size<=b
def Mx.Ex {b:Nat}{x:NS}(h:Mx w0 w m b s x):bF w0 w m b s ⟨x,0⟩:=⟨h.mx,h.st,h.ne,h.g,h.lm,h.lb⟩
def bF.Ey {b:Nat}{M:MS}(h:bF w0 w m b s M)(a:M.e=0):Mx w0 w m b s M.x:=⟨by have q:=h.mx;rw[a]at q;exact q,h.st,h.ne,h.g,h.lm,h.lb⟩
def bF.cells {b:Nat}{M:MS}(h:bF w0 w m b s M):w.cell? ⟨m,0,none⟩=some (.pointer (some ⟨b,0,none⟩))/\w.cell? ⟨m,1,none⟩=some (.int .i64 M.e)/\w.frozen? ⟨m,1,none⟩=false:=⟨ab.cell h.mx 0,ab.cell h.mx 1,ab.frozen h.mx 1⟩
def bF.new {b:Nat}{M:MS}(h:bF w0 w m b s M)(g:w.grownBy w' none):bF w0 w' m b s M:=⟨ab.kept h.mx g pu,h.st.kept g pu,h.ne,ai h.g g,h.lm,h.lb⟩
def bF.step {b:Nat}{M:MS}{y:NS}(h:bF w0 w m b s M)(a:gQ w' b s y)(g:w.grownBy w' (some b)):bF w0 w' m b s ⟨y,M.e⟩:=⟨ab.kept h.mx g (by simp;exact h.ne),a,h.ne,cJ h.g g h.lb,h.lm,h.lb⟩
def bF.err {b:Nat}{M:MS}(h:bF w0 w m b s M)(e:Nat):bF w0 (w.setCell ⟨m,1,none⟩ (.int .i64 e)) m b s ⟨M.x,e⟩:=
 ⟨ab.set h.mx 1 (.int .i64 e),h.st.kept (aw (ak w (some m)) 1 _) (λe=>h.ne (aH e).symm),h.ne,cJ h.g (aw (ak w (some m)) 1 _) h.lm,h.lm,h.lb⟩
def bF.JS {b:Nat}{M:MS}(h:bF w0 w m b s M):bF w0 (w.setCell ⟨m,1,none⟩ (.int .i64 0)) m b s ⟨M.x,0⟩:=h.err 0
def bF.Xh {b:Nat}{M:MS}(h:bF w0 w m b s M):bF w0 (w.setCell ⟨m,1,none⟩ (.int .i64 12)) m b s ⟨M.x,12⟩:=h.err 12
def cU(w0:World)(m b s:Nat)(v:Value)(M:MS)(e:Ending)(w':World):Prop:=e= .returned v/\bF w0 w' m b s M
def DQ w0 w (m b s:Nat)(g:s=1\/s=2)(M:MS)(o:M.x.ok)(t:Lb)(i:t.length<=9223372036854774000)(h:bF w0 w m b s M):
 Calls prog 221 #[.pointer (some ⟨m,0,none⟩),S t] w (cU w0 m b s (.tuple #[]) (M.both s t)):=by
 obtain ⟨c0,c1,r⟩:=h.cells;have d:=Iz w b s g M.x o t i h.st;have f:=λ(W:World) (v:gQ W b s (M.x.hash s t))=>OQ W b s g (M.x.hash s t) (o.hash t) t i v;have H:=Hq h;have n:Hid (M.both s t=⟨(M.x.hash s t).key s t,M.e⟩):=Hq rfl;rw[n.out];unfold pS at d f;generalize M.x.hash s t=y at*;generalize y.key s t=z at*;clear o i h g;unfold S at*;go_enter func221,ntmps221;go_wp2_with fail;refine d.mono ?_;rintro e C ⟨rfl,a,c⟩;have H1:=Hq (H.out.step a c);obtain ⟨p,q,u⟩:=H1.out.cells;have k:=f C a;clear d f a c c0 c1 r;go_wp2_with fail;refine k.mono ?_;rintro e I ⟨rfl,a,c⟩;have l:=Hq (H1.out.step a c);clear k a c p q u;go_wp2;go_end0;exact ⟨rfl,l.out⟩
def r8 w0 w (m b s:Nat)(M:MS)(a:M.e≠0) k u (h:bF w0 w m b s M):
 Calls prog 222 #[.pointer (some ⟨m,0,none⟩),S k,S u] w (cU w0 m b s (.tuple #[]) (M.bt s k u)):=by
 have e:M.bt s k u=M:=by unfold MS.bt;rw[au a]
 rw[e];obtain ⟨c0,c1,c⟩:=h.cells;have q:((M.e:Int) !=0)=true:=by rw[dY];omega
 have H:=Hq h;clear h a e;unfold S at*;go_enter func222,ntmps222;go_wp2;go_end0;exact ⟨rfl,H.out⟩
def r7 w0 w (m b s:Nat)(M:MS)(a:M.e≠0) t (h:bF w0 w m b s M):
 Calls prog 223 #[.pointer (some ⟨m,0,none⟩),S t] w (cU w0 m b s (S (M.qB s t)) (M.kK s t)):=by
 have e:M.kK s t=M:=by unfold MS.kK;rw[au a]
 have c:M.qB s t=[]:=by unfold MS.qB;rw[au a]
 rw[e,c];obtain ⟨c0,c1,d⟩:=h.cells;have q:((M.e:Int)==0)=false:=by rw[dC];omega
 have H:=Hq h;clear h a e c;unfold S at*;go_enter func223,ntmps223;go_wp2;go_ret;exact ⟨rfl,H.out⟩
def r6 w0 w (m b s:Nat)(M:MS)(a:M.e≠0) t (h:bF w0 w m b s M):
 Calls prog 238 #[.pointer (some ⟨m,0,none⟩),S t] w (cU w0 m b s (S (M.nW s t)) (M.open s t)):=by
 have e:M.open s t=M:=by unfold MS.open;rw[au a]
 have c:M.nW s t=[]:=by unfold MS.nW;rw[au a]
 rw[e,c];obtain ⟨c0,c1,d⟩:=h.cells;have q:((M.e:Int)==0)=false:=by rw[dC];omega
 have H:=Hq h;clear h a e c;unfold S at*;go_enter func238,ntmps238;go_wp2;go_ret;exact ⟨rfl,H.out⟩
def s8 w0 w (m b s:Nat)(M:MS)(c:M.e=0)(k u:Lb)(g:k.length=32)(i:u.length=32)(h0:cS k u=aP 0 32)(h:bF w0 w m b s M):
 Calls prog 222 #[.pointer (some ⟨m,0,none⟩),S k,S u] w (cU w0 m b s (.tuple #[]) (M.bt s k u)):=by
 have e:M.bt s k u=⟨M.x,12⟩:=by unfold MS.bt;rw[av c,av h0]
 rw[e];obtain ⟨c0,c1,n⟩:=h.cells;rw[c]at c1;have d:=Uk w k u g i h0;have H:=Hq h;clear h c e g i h0;unfold S at*;go_enter func222,ntmps222;go_wp2_with fail;refine ax d λr f=>?_;have a:=H.out.new f;obtain ⟨o,p,q⟩:=a.cells;have l:=Hq a.Xh;clear d f c0 c1 n a;go_wp2;go_end0;exact ⟨rfl,l.out⟩
def r9 w0 w (m b s:Nat)(q:s=1\/s=2)(M:MS)(g:M.e=0)(o:M.x.ok)(k u:Lb)(r:k.length=32)(v:u.length=32)(i:cS k u≠aP 0 32)(h:bF w0 w m b s M):
 Calls prog 222 #[.pointer (some ⟨m,0,none⟩),S k,S u] w (cU w0 m b s (.tuple #[]) (M.bt s k u)):=by
 have e:M.bt s k u=⟨M.x.key s (cS k u),0⟩:=by unfold MS.bt;rw[av g,au i]
 rw[e];obtain ⟨c0,c1,C⟩:=h.cells;rw[g]at c1;have l:=Ul w k u r v i;have c:=λ(W:World) (I:gQ W b s M.x)=>OQ W b s q M.x o (cS k u) (by rw[ti];omega) I;have H:=Hq h;unfold pS at c;generalize cS k u=V at*;generalize M.x.key s V=z at*;clear o h q r v i g e;unfold S at*;go_enter func222,ntmps222;go_wp2_with fail;refine ax l λw1 a=>?_;have d:=H.out.new a;obtain ⟨J,P,g1⟩:=d.cells;have f:=d.JS;have n:=c _ f.st;have p:=Hq f;obtain ⟨R,U,i1⟩:=p.out.cells;clear l c a c0 c1 C d f;go_wp2_with fail;refine n.mono ?_;rintro e w2 ⟨rfl,t,a⟩;have y:=Hq (p.out.step t a);clear n t a;go_wp2;go_end0;exact ⟨rfl,y.out⟩
def uE w0 w (m b s:Nat)(g:s=1\/s=2)(M:MS)(o:M.x.ok)(k u:Lb)(d:k.length=32)(f:M.e=0->u.length=32)(h:bF w0 w m b s M):
 Calls prog 222 #[.pointer (some ⟨m,0,none⟩),S k,S u] w (cU w0 m b s (.tuple #[]) (M.bt s k u)):=by
 by_cases a:M.e=0
 ·by_cases c:cS k u=aP 0 32
  ·exact s8 w0 w m b s M a k u d (f a) c h
  exact r9 w0 w m b s g M a o k u d (f a) c h
 exact r8 w0 w m b s M a k u h
def Iy w0 w (m b s:Nat)(g:s=1\/s=2)(M:MS)(o:M.dI 999)(t:Lb)(n:t.length<=2000)(h:bF w0 w m b s M):
 Calls prog 223 #[.pointer (some ⟨m,0,none⟩),S t] w (cU w0 m b s (S (M.qB s t)) (M.kK s t)):=by
 by_cases a:M.e=0
 ·have e:M.kK s t=⟨M.x.aG s t,0⟩:=by unfold MS.kK;rw[av a]
  have f:M.qB s t=M.x.ct s t:=by unfold MS.qB;rw[av a]
  rw[e,f];obtain ⟨c0,c1,q⟩:=h.cells;rw[a]at c1;have c:=x9 w b s g M.x o.ok o.k t n h.st;have H:=Hq h;unfold pS at c;generalize M.x.ct s t=C at*;generalize M.x.aG s t=z at*;clear o h g n a e f;unfold S at*;go_enter func223,ntmps223;go_wp2_with fail;refine c.mono ?_;rintro e y ⟨rfl,l,i⟩;have d:=H.out.step l i;obtain ⟨r,u,v⟩:=d.cells;have p:=Hq d.JS;clear c l i c0 c1 q d;go_wp2;go_ret;exact ⟨rfl,p.out⟩
 exact r7 w0 w m b s M a t h
def x8 w (b s:Nat)(l:s=1\/s=2)(x:NS)(o:x.ok)(d:x.k.length=32)(c t:Lb)(q:c.length<=2016)(a:mv s x.k x.n x.h c=some t)(h:gQ w b s x):
 Calls prog 272 #[.pointer (some ⟨b,0,none⟩),S c] w (pS w b s (.tuple #[S t, .int .i64 0]) (x.opened s c)):=by
 have r:x.h.length=32:=o.h;have i:x.n<18446744073709551000:=by have:=o.n;omega
 have e:c=c.take (c.length-16)++c.drop (c.length-16):=(pJ _ _).symm;unfold mv unbox at a;rcases l with rfl|rfl
 ·rw[av rfl]at a;split at a
  ·cases a
  rename_i p;have g:(c.take (c.length-16)).length<=2000:=by rw[aJ];omega
  split at a
  ·rename_i f;obtain rfl:=aH a;refine aaE w b x.h x.c x.k c _ x.n h d pm i pm λW=>Gn W x.k (cF 1 x.n) x.h _ _ 0 λW2=>?_;have:=Gv W2 x.k (cF 1 x.n) x.h (c.take (c.length-16)) d (ki 1 x.n) pm g;rw[<-f,<-e]at this;exact this
  cases a
 rw[au ut]at a;split at a
 ·cases a
 rename_i p;have g:(c.take (c.length-16)).length<=2000:=by rw[aJ];omega
 split at a
 ·rename_i f;obtain rfl:=aH a;refine aaG w b x.h x.c x.k c _ x.n h d pm i pm λW=>Gp W x.k (cF 2 x.n) x.h _ _ 0 λW2=>?_;have:=LJ W2 x.k (cF 2 x.n) x.h (c.take (c.length-16)) d (ki 2 x.n) pm g;rw[<-f,<-e]at this;exact this
 cases a
def s9 w (b s:Nat)(y:s=1\/s=2)(x:NS)(o:x.ok)(f:x.k.length=32)(c:Lb)(z:c.length<=2016)(d:mv s x.k x.n x.h c=none)(h:gQ w b s x):
 Calls prog 272 #[.pointer (some ⟨b,0,none⟩),S c] w (Grown (.tuple #[S [], .int .i64 (iW c)]) w):=by
 have C:x.h.length=32:=o.h;have v:x.n<18446744073709551000:=by have:=o.n;omega
 have e:c=c.take (c.length-16)++c.drop (c.length-16):=(pJ _ _).symm;have u:((iW c:Int)==0)=false:=by rw[dC];unfold iW;split<;>decide
 unfold mv unbox at d;rcases y with rfl|rfl
 ·rw[av rfl]at d;refine aaD w b x.h x.c x.k c [] x.n (iW c) u h f v λW=>Gn W x.k (cF 1 x.n) x.h _ _ (iW c) λW2=>?_;split at d
  ·rename_i a;have g:iW c=4:=by unfold iW;rw[av a]
   rw[g];exact (Gx W2 x.k (cF 1 x.n) x.h c f (ki 1 x.n) pm a).mono λe w' ⟨l,p⟩=>⟨l,p▸ak _ _⟩
  rename_i a;have i:iW c=6:=by unfold iW;rw[au a]
  have t:(c.drop (c.length-16)).length=16:=by rw[aR];omega
  have r:(c.take (c.length-16)).length<=2000:=by rw[aJ];omega
  rw[i];split at d
  ·cases d
  rename_i q;have:=Gw W2 x.k (cF 1 x.n) x.h _ _ f (ki 1 x.n) pm r t q;rwa[<-e]at this
 rw[au ut]at d;refine aaF w b x.h x.c x.k c [] x.n (iW c) u h f v λW=>Gp W x.k (cF 2 x.n) x.h _ _ (iW c) λW2=>?_;split at d
 ·rename_i a;have g:iW c=4:=by unfold iW;rw[av a]
  rw[g];exact (LO W2 x.k (cF 2 x.n) x.h c f (ki 2 x.n) pm a).mono λe w' ⟨l,p⟩=>⟨l,p▸ak _ _⟩
 rename_i a;have i:iW c=6:=by unfold iW;rw[au a]
 have t:(c.drop (c.length-16)).length=16:=by rw[aR];omega
 have r:(c.take (c.length-16)).length<=2000:=by rw[aJ];omega
 rw[i];split at d
 ·cases d
 rename_i q;have:=LM W2 x.k (cF 2 x.n) x.h _ _ f (ki 2 x.n) pm r t q;rwa[<-e]at this
def Ix w0 w (m b s:Nat)(l:s=1\/s=2)(M:MS)(o:M.dI 999)(c:Lb)(p:c.length<=2016)(h:bF w0 w m b s M):
 Calls prog 238 #[.pointer (some ⟨m,0,none⟩),S c] w (cU w0 m b s (S (M.nW s c)) (M.open s c)):=by
 by_cases a:M.e=0
 ·obtain ⟨c0,c1,r⟩:=h.cells;rw[a]at c1;cases ho:mv s M.x.k M.x.n M.x.h c with
  |some t=>
   have e:M.open s c=⟨M.x.opened s c,0⟩:=by unfold MS.open;rw[av a,ho]
   have g:M.nW s c=t:=by unfold MS.nW;rw[av a,ho]
   rw[e,g];have f:=x8 w b s l M.x o.ok o.k c t p ho h.st;have H:=Hq h;unfold pS at f;generalize M.x.opened s c=z at*;clear o h l p a e g ho;unfold S at*;go_enter func238,ntmps238;go_wp2_with fail;refine f.mono ?_;rintro e J ⟨rfl,u,i⟩;have d:=H.out.step u i;obtain ⟨v,y,C⟩:=d.cells;have q:=Hq d.JS;clear f u i c0 c1 r d;go_wp2;go_ret;exact ⟨rfl,q.out⟩
  |none=>
   have e:M.open s c=⟨M.x,iW c⟩:=by unfold MS.open;rw[av a,ho]
   have g:M.nW s c=[]:=by unfold MS.nW;rw[av a,ho]
   rw[e,g];have f:=s9 w b s l M.x o.ok o.k c p ho h.st;have H:=Hq h;generalize iW c=I at*;clear o h l p a e g ho;unfold S at*;go_enter func238,ntmps238;go_wp2_with fail;refine ax f λJ i=>?_;have d:=H.out.new i;obtain ⟨v,y,C⟩:=d.cells;have q:=Hq (d.err I);clear f i c0 c1 r d;go_wp2;go_ret;exact ⟨rfl,q.out⟩
 exact r6 w0 w m b s M a c h
def Ms w (s R index:Nat)(b9 b8:Int)(own PP aD a4 PO PS va vb st ix:Lb)(x0:NS)(M1 M2 M3 M4 o:MS)(c7:s=1\/s=2)
 (AW:∀W:World,Calls prog 217 #[.agg #[.int .i64 b9, .int .i64 b8]] W (λe w'=>e= .returned (.tuple #[S st, .int .i64 0])/\W.grownBy w' none))
 (AI:∀W:World,Calls prog 218 #[.int .i64 s] W λe w'=>e= .returned (.bool true)/\W=w') (b4:∀W:World,Calls prog 218 #[.int .i64 R] W λe w'=>e= .returned (.bool true)/\W=w')
 (d6:PP.length=32) (d5:PO.length=32) (d7:PS.length=32)
 (AK:∀W:World,Calls prog 219 #[.slice (some ⟨W.heap.size,0,none⟩) 4 4] (W.alloc (.cells #[S own,S PP,S aD,S a4] 9)) (λe w'=>e= .returned (.bool true)/\(W.alloc (.cells #[S own,S PP,S aD,S a4] 9))=w'))
 (AB:∀W:World,Calls prog 220 #[.int .i64 s,S PP] W (λe w'=>∃m b,e= .returned (.pointer (some ⟨m,0,none⟩))/\Mx W w' m b s x0))
 (P1:∀W:World,Calls prog 38 #[S a4] W (Grown (.tuple #[S PO, .int .i64 0]) W)) (P2:∀W:World,Calls prog 38 #[S own] W (Grown (.tuple #[S PS, .int .i64 0]) W))
 (C1:∀(w0 W:World) (m b:Nat),bF w0 W m b s ⟨x0,0⟩->Calls prog 221 #[.pointer (some ⟨m,0,none⟩),S PO] W (cU w0 m b s (.tuple #[]) M1))
 (C2:∀(w0 W:World) (m b:Nat),bF w0 W m b s M1->Calls prog 222 #[.pointer (some ⟨m,0,none⟩),S a4,S PP] W (cU w0 m b s (.tuple #[]) M2))
 (C3:∀(w0 W:World) (m b:Nat),bF w0 W m b s M2->Calls prog 223 #[.pointer (some ⟨m,0,none⟩),S PS] W (cU w0 m b s (S va) M3))
 (C4:∀(w0 W:World) (m b:Nat),bF w0 W m b s M3->Calls prog 222 #[.pointer (some ⟨m,0,none⟩),S own,S PP] W (cU w0 m b s (.tuple #[]) M4))
 (C5:∀(w0 W:World) (m b:Nat),bF w0 W m b s M4->Calls prog 223 #[.pointer (some ⟨m,0,none⟩),S (st++[UInt8.ofNat R])] W (cU w0 m b s (S vb) o))
 (A9:∀W:World,Calls prog 224 #[.int .u32 index] W (Grown (S ix) W))
 (ub:IntKind.u8.wrap (R:Int)=(R:Int)) (us:IntKind.u8.wrap (s:Int)=(s:Int)) (CB:∀W:World,(convert 83 9 (.slice (some ⟨W.heap.size,0,none⟩) 1 1)).run prog (W.alloc (.cells #[.int .u8 R] 5))= .ok (.string ⟨#[UInt8.ofNat R]⟩) (W.alloc (.cells #[.int .u8 R] 5)))
 (d8:st.length=12) (l4:ix.length=4) (Q:Ending->World->Prop)
 (K:(o.e≠0/\∀e w',Grown (.tuple #[S [], .pointer none, .int .i64 o.e]) w e w'->Q e w')\/(o.e=0/\va.length=48/\vb.length=29/\
  ∀e w',(∃g,e= .returned (.tuple #[S (1::UInt8.ofNat s::(ix++(PO++(va++vb)))), .pointer (some ⟨g,0,none⟩), .int .i64 0])/\ab w' g 312 (mu s o.x.h o.x.c o.x.k o.x.n++[.int .i64 s,S own,S PP,S aD,S a4, .int .u32 index])/\w.grownBy w' none/\w.heap.size<=g)->Q e w')):
 Calls prog 171 #[.agg #[.int .i64 s,S own,S PP,S aD],S a4, .agg #[.int .i64 b9, .int .i64 b8], .int .i64 R, .int .u32 index] w Q:=by
 have r1:=eD;have HK:=Hq K;clear K;unfold cU at C1 C2 C3 C4 C5;unfold S at*;go_enter func171,ntmps171;go_wp2_with fail;refine ax (AW _) λy1 g1=>?_;have a6:ab y1 w.heap.size 251 [.int .i64 s, .string ⟨own.toArray⟩, .string ⟨PP.toArray⟩, .string ⟨aD.toArray⟩]:=ab.kept (cG (aO w _)) g1 pu;have c4:=Hq (ai (aF (aT w _ none) _) g1);have c0:=ab.cell a6 0;have c1:=ab.cell a6 1;have c2:=ab.cell a6 2;have c3:=ab.cell a6 3;have b':=Hq a6;clear a6 g1;go_wp2_with fail;refine (AI _).mono ?_;rintro e z ⟨rfl,rfl⟩;go_wp2_with fail;refine ax (AK _) λy2 h2=>?_;have g2:y1.grownBy y2 none:=by rw[<-h2];exact aT y1 _ none
 have a7:=ab.kept b'.out g2 pu;have a9:=Hq (ai c4.out g2);clear h2 g2 c0 c1 c2 c3;have c0:=ab.cell a7 0;have c1:=ab.cell a7 1;have c2:=ab.cell a7 2;have c3:=ab.cell a7 3;have a5:=Hq a7;clear a7;go_wp2_with fail;refine (b4 _).mono ?_;rintro e z ⟨rfl,rfl⟩;go_wp2_with fail;refine (AB _).mono ?_;rintro e y3 ⟨m,b,rfl,h3⟩;have h3:=h3.Ex;have H3:=Hq h3;clear h3 c0 c1 c2 c3 AB AK AI b4 AW;go_wp2_with fail;refine ax (P1 _) λy4 g4=>?_;have h4:=H3.out.new g4;have H4:=Hq h4;have f:=ab.cell (ab.kept a5.out h4.g pu) 1;clear g4 h4;go_wp2_with fail;refine ax (P2 _) λy5 g5=>?_;have h5:=H4.out.new g5;have B1:=C1 _ _ _ _ h5;clear f g5 h5 P1 P2 C1;go_wp2_with fail;refine ax B1 λy6 h6=>?_;have B2:=C2 _ _ _ _ h6;have i:=ab.cell (ab.kept a5.out h6.g pu) 2;clear h6 B1 C2;go_wp2_with fail;refine ax B2 λy7 h7=>?_;have B3:=C3 _ _ _ _ h7;clear h7 B2 C3 i;go_wp2_with fail;refine ax B3 λy8 h8=>?_;have B4:=C4 _ _ _ _ h8;have f:=ab.cell (ab.kept a5.out h8.g pu) 1;have i:=ab.cell (ab.kept a5.out h8.g pu) 2;clear h8 B3 C4;go_wp2_with fail;refine ax B4 λy9 h9=>?_;have b7:=h9.new (aT y9 (.cells #[.int .u8 R] 5) none);have B5:=C5 _ _ _ _ b7;clear h9 b7 B4 C5 f i;go_wp2_with fail;refine ax B5 λyA q=>?_;rcases HK.out with⟨h5,kQ⟩|⟨h5,la,lb,kQ⟩
 ·have c':((o.e:Int) !=0)=true:=by rw[dY];omega
  have d4:((o.e:Int)==0)=false:=by rw[dC];omega
  have HQ:=Hq kQ;clear h5 HK kQ;obtain ⟨p,e1,_⟩:=q.cells;have HA:=Hq q;clear q B5;go_wp2_with fail
  go_quiet (fail)
  go_wp2_with fail;exact HQ.out _ _ ⟨rfl,by repeat(first|exact ai a9.out HA.out.g|apply iT|apply aM|apply aF)⟩
 have c5:=Hq h5;obtain ⟨x5,b0⟩:=kq o.x;rw[<-b0]at kQ;have c6:=Hq b0;have HQ:=Hq kQ;clear h5 b0 HK kQ;have q:=q.Ey c5.out;rw[<-c6.out]at q;obtain ⟨p,e1,_⟩:=q.cells;have a8:=ab.kept a5.out q.g pu;have C:=ab.cell a8 0;have f:=ab.cell a8 1;have i:=ab.cell a8 2;have I:=ab.cell a8 3;obtain ⟨J,t,u,v,P⟩:=bj.cells q.st;have HA:=Hq q;have c9:=Hq a8;clear q a8 B5;unfold S at t u v;have y:∀W:World,yA.grownBy W none->W.cell? ⟨w.heap.size,0,none⟩=some (.int .i64 s)/\W.cell? ⟨w.heap.size,1,none⟩=some (.string ⟨own.toArray⟩)/\W.cell? ⟨w.heap.size,2,none⟩=some (.string ⟨PP.toArray⟩)/\W.cell? ⟨w.heap.size,3,none⟩=some (.string ⟨aD.toArray⟩)/\W.cell? ⟨m,0,none⟩=some (.pointer (some ⟨b,0,none⟩))/\W.cell? ⟨b,0,none⟩=some (hJ s)/\W.cell? ⟨b,1,none⟩=some (.string ⟨x5.h.toArray⟩)/\W.cell? ⟨b,2,none⟩=some (.string ⟨x5.c.toArray⟩)/\W.cell? ⟨b,3,none⟩=some (.string ⟨x5.k.toArray⟩)/\W.cell? ⟨b,4,none⟩=some (.int .u64 x5.n):=λW g=>by have hW:=HA.out.new g;have hb:=ab.kept a5.out hW.g pu;obtain ⟨t0,t1,t2,t3,t4⟩:=bj.cells hW.st;unfold S at t1 t2 t3;exact ⟨ab.cell hb 0,ab.cell hb 1,ab.cell hb 2,ab.cell hb 3,hW.cells.1,t0,t1,t2,t3,t4⟩
 go_upto_region 14with(fail);have a':eF 28 1001 1002 (λa b=>a.grownBy b none) (λ_ _ _=>True) [(3,λr zz=>yA.heap.size<=r.g/\ab zz r.g 5 [.int .u8 1, .int .u8 s]),(24,λr zz=>yA.heap.size<=r.g/\ab zz r.g 312 [hJ s, .string ⟨x5.h.toArray⟩, .string ⟨x5.c.toArray⟩, .string ⟨x5.k.toArray⟩, .int .u64 x5.n, .int .i64 s, .string ⟨own.toArray⟩, .string ⟨PP.toArray⟩, .string ⟨aD.toArray⟩, .string ⟨a4.toArray⟩, .int .u32 index])]:=⟨λ_ _ h=>h,λ_ _ _=>ai,λ_ _ _ _ _ _=>True.intro,⟨λ_ r0 _ _ h g=>⟨h.1,h.2.kept g pu⟩,λ_ r0 _ _ h g=>⟨h.1,h.2.kept g pu⟩,True.intro⟩,λe=>absurd e ut,λe=>absurd e ut,qr⟩;apply gT a' qr qr (True.intro);intro u0;iterate 3 (apply aX;rfl;(intro U b2 x a0 a1 a2 a3 l d hr;first|(go_simp;exact aq)|(obtain ⟨C,f,i,I,p,J,t,u,v,P⟩:=y x d;go_simp;exact aq));simp only[aA])
 apply jy a' (λr=>(λg=> .slice (some ⟨g,0,none⟩) 2 2) r.g) 0 rfl ut
 ·intro U b2 x a0 a1 a2 a3 l d hr;obtain ⟨C,f,i,I,p,J,t,u,v,P⟩:=y x d
  go_simp
  exact gp ⟨x.heap.size,undef⟩ (aT x _ none) ⟨d.size,ab.new x _ _⟩
 simp only[aA];apply aX;rfl
 ·intro U b2 x a0 a1 a2 a3 l d hr;obtain ⟨l3,b3⟩:=l.at (k:=0) (j:=3) rfl qr;generalize (u0 3).g=g3 at*;obtain ⟨C,f,i,I,p,J,t,u,v,P⟩:=y x d;have kc:=Mo 1 1 rfl c7 b3;unfold S at kc
  go_simp
  exact aq
 simp only[aA];apply aX;rfl;·(intro U b2 x a0 a1 a2 a3 l d hr;first|(go_simp;exact aq)|(obtain ⟨C,f,i,I,p,J,t,u,v,P⟩:=y x d;go_simp;exact aq))
 simp only[aA];apply aX;rfl
 ·intro U b2 x a0 a1 a2 a3 l d hr;obtain ⟨C,f,i,I,p,J,t,u,v,P⟩:=y x d
  go_simp
  refine ax (A9 _) λz gz=>?_;exact gv gz
 simp only[aA];iterate 17 (apply aX;rfl;(intro U b2 x a0 a1 a2 a3 l d hr;first|(go_simp;exact aq)|(obtain ⟨C,f,i,I,p,J,t,u,v,P⟩:=y x d;go_simp;exact aq));simp only[aA])
 apply jy a' (λr=>(λg=> .pointer (some ⟨g,0,none⟩)) r.g) 1 rfl ut
 ·intro U b2 x a0 a1 a2 a3 l d hr;obtain ⟨C,f,i,I,p,J,t,u,v,P⟩:=y x d
  go_simp
  exact gp ⟨x.heap.size,undef⟩ (aT x _ none) ⟨d.size,ab.new x _ _⟩
 simp only[aA];apply aX;rfl;·(intro U b2 x a0 a1 a2 a3 l d hr;first|(go_simp;exact aq)|(obtain ⟨C,f,i,I,p,J,t,u,v,P⟩:=y x d;go_simp;exact aq))
 simp only[aA];apply qv 24 (λr=>(λg=> .pointer (some ⟨g,0,none⟩)) r.g);kernel_rfl
 ·intro U b2 x a0 a1 a2 a3 l d hr;obtain ⟨c8,b5⟩:=l.at (k:=1) (j:=24) rfl qr;generalize (u0 24).g=b6 at*;obtain ⟨C,f,i,I,p,J,t,u,v,P⟩:=y x d
  go_simp
  exact aq
 simp only[aA];apply aX;rfl;·(intro U b2 x a0 a1 a2 a3 l d hr;first|(go_simp;exact aq)|(obtain ⟨C,f,i,I,p,J,t,u,v,P⟩:=y x d;go_simp;exact aq))
 simp only[aA];refine pz ?_;intro x d hR l;refine oD ?_;obtain ⟨l3,b3⟩:=l.at (k:=0) (j:=3) rfl;generalize (u0 3).g=g3 at*;obtain ⟨c8,b5⟩:=l.at (k:=1) (j:=24) rfl;generalize (u0 24).g=b6 at*;go_wp2_with fail;exact HQ.out _ _ ⟨b6,rfl,b5,ai (ai a9.out HA.out.g) d,by have h1:=a9.out.size;have h2:=HA.out.g.size;omega⟩
end
end Go.Proofs.YtmomfbkpniblgaaGreatDoor
