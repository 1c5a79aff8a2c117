/- A part of this claim's proof. -/
import Derived.Test.YtmomfbkpniblgaaGreatDoorYj13
import Derived.Laws.BitsAllLaws
import Derived.Deep.RegionWith
import Derived.Deep.RegionHeld3
set_option linter.all false
set_option maxHeartbeats 4000000
set_option maxRecDepth 100000
namespace Go.Proofs.YtmomfbkpniblgaaGreatDoor
open Go.Proofs.Tryz
variable {A a:Act}{L M W l:Ln}{vs:Lv}{B X2 X3 Z2 Z3 bit e i n q v x y:Nat}{o:Oper}{t:TypeId}{w wb:World}
section
open Go.RowKit
def jB(a b:Ln)(i k:Nat):Ln:=wO a b i (tw a b i) k
def QT a b (i k:Nat):(jB a b i k).length=5:=by unfold jB;rw[JH,QV]
def QS {a b:Ln}(c:∀x∈a,x<=2251799813685266)(d:∀x∈b,x<=2251799813685266)(i k:Nat)(f:i<=5)(g:k<=5):∀x∈jB a b i k,x<=3000000000000000000000000000000000:=by intro x h;have:=JG c d (QU c d i) i k x h;have j:=wX 500000000000000000000000000000000 f;have m:=wX 100000000000000000000000000000000 g;omega
def abH (a b:Ln)(i k c y:Nat)(h1:(i+k)%5=c)(d:y=if 5<=i+k then 19*b.getD k 0 else b.getD k 0):(jB a b i k).set c ((jB a b i k).getD c 0+a.getD i 0*y)=jB a b i (k+1):=by unfold jB;rw[wO,yJ,h1,d]
def Ds (h:i<l.length):l.getD i 0=l[i]:=by rw[dh,aW h];rfl
def Rl w (B:Nat)(a b:Ln)(i k c x y:Nat)(j:∀x∈a,x<=2251799813685266)(m:∀x∈b,x<=2251799813685266)(r:i<=5)(u:k<=4)(h1:(i+k)%5=c)(p:x=a.getD i 0)(f:y=if 5<=i+k then 19*b.getD k 0 else b.getD k 0)
 (h:kR w B (jB a b i k)):∃n:Nat,(∀W:World,kR W B (jB a b i k)->W.cell? ⟨B,c*2,none⟩=some (.int .u64 (eH n:Nat))/\W.cell? ⟨B,c*2+1,none⟩=some (.int .u64 (fC n:Nat)))/\
  (∀W:World,Calls prog 141 #[.agg #[.int .u64 (eH n:Nat), .int .u64 (fC n:Nat)], .int .u64 x, .int .u64 y] W (Grown (.agg #[.int .u64 (eH (n+x*y):Nat), .int .u64 (fC (n+x*y):Nat)]) W))/\
  ∀W:World,kR W B (jB a b i k)->kR ((W.setCell ⟨B,c*2,none⟩ (.int .u64 (eH (n+x*y):Nat))).setCell ⟨B,c*2+1,none⟩ (.int .u64 (fC (n+x*y):Nat))) B (jB a b i (k+1)):=by
 have d:c<(jB a b i k).length:=by rw[QT];omega
 rw[jH c 2];have z:=QS j m i k r pm _ (iE d);have s:=PM j m i k;rw[<-p,<-f]at s;have C:=uo j i;have I:y<=19*2251799813685266:=by have:=uo m k;rw[f];split<;>omega
 refine ⟨(jB a b i k)[c],λW g=>g.cell c d,λW=>VL W _ x y pm pm pm,λW g=>?_⟩;have:=g.set c ((jB a b i k)[c]+x*y) d;rw[<-Ds d,p,abH a b i k c y h1 f,Ds d,<-p]at this;exact this
def oQ(W:Ln)(i:Nat):Ln:=(bU (W.take i) 0).1++List.replicate (5-i) 0
def ri(W:Ln)(i:Nat):Nat:=(bU (W.take i) 0).2
def Lf (W:Ln)(i:Nat)(b:W.length=5)(c:i<=5):(oQ W i).length=5:=by unfold oQ;rw[aK,mg,aJ,wW];omega
def Tw (W:Ln)(i:Nat)(f:W.length=5)(c:i<W.length):(oQ W i).set i ((W[i]+ri W i)%2251799813685248)=oQ W (i+1)/\ri W (i+1)=(W[i]+ri W i)/2251799813685248:=by
 have d:(bU (W.take i) 0).1.length=i:=by rw[mg,aJ];omega
 have b:W.take (i+1)=W.take i++[W[i]]:=fP c;have e:List.replicate (5-i) 0=0::List.replicate (5-(i+1)) 0:=by rw[show 5-i=(5-(i+1))+1from pm,Bx]
 unfold oQ ri;rw[b,CI,kp _ _ pm,d,il,e,iD];exact ⟨by rw[dM];rfl,rfl⟩
def KY (W:Ln)(b:∀x∈W,x<=3000000000000000000000000000000000)(i:Nat):ri W i<=1400000000000000000:=
 zH 1400000000000000000 _ 0 (λx c=>by have:=b x (Bt c);omega) pm
def Tv (W:Ln)(b:W.length=5):oQ W 5=(bU W 0).1/\ri W 5=(bU W 0).2:=by unfold oQ ri;rw[cE pm];simp
def abF (W:Ln)(h:W.length=5):(om W).length=5:=by unfold om;simp[mg,h]
def abE (W:Ln)(h:W.length=5)(d:∀x∈W,x<=3000000000000000000000000000000000):∀x∈om W,x<=9223372036854775808:=by
 intro x b;have j:(bU W 0).2<=1400000000000000000:=zH 1400000000000000000 _ 0 (λx b=>by have:=d x b;omega) pm;have c:=ud W 0;have f:=uo (M:=2251799813685248) (λx b=>pO (c x b)) 0;have g:=uo (M:=2251799813685248) (λx b=>pO (c x b)) 1;unfold om at b;rcases pH b with b|rfl
 ·rcases pH b with b|rfl
  ·have:=c x b;omega
  omega
 omega
def acq (n c:Nat)(m:n<=3000000000000000000000000000000000)(k:c<=1400000000000000000):∃s d:Nat,s<18446744073709551616/\d<=1/\
 (∀w:World,(callFunc 142 #[.int .u64 (fC n:Nat), .int .u64 c, .int .u64 (0:Nat)]).run prog w= .ok (.value (.tuple #[.int .u64 s, .int .u64 d])) w)/\
 s%2251799813685248=(n+c)%2251799813685248/\eH n<163000000000000/\((eH n+d)*8192)|||(s/2251799813685248)=(n+c)/2251799813685248:=by
 obtain ⟨s,d,j,h,g,b⟩:=GN (fC n) c 0 pm (dQ _ pm) pm;have e:n=fC n+18446744073709551616*eH n:=by unfold fC eH;omega
 have f:eH n<163000000000000:=by unfold eH;omega
 refine ⟨s,d,h,g,b,?_,f,?_⟩
 ·omega
 have:=@yT 13 (s/2251799813685248) pm (eH n+d);rw[jH,<-this];omega
def YE (w:World)(b c d f g:Nat)(k:Nat)(h:k<[b,c,d,f,g].length):
 (Instr.index 214 (.agg #[.int .u64 (eH b:Nat), .int .u64 (fC b:Nat), .int .u64 (eH c:Nat), .int .u64 (fC c:Nat), .int .u64 (eH d:Nat), .int .u64 (fC d:Nat), .int .u64 (eH f:Nat), .int .u64 (fC f:Nat), .int .u64 (eH g:Nat), .int .u64 (fC g:Nat)]) (.int .i64 k)).run prog w= .ok (.agg #[.int .u64 (eH [b,c,d,f,g][k]:Nat), .int .u64 (fC [b,c,d,f,g][k]:Nat)]) w:=by
 match k,h with
 |0,_=>exact YF w _ _ _ _ _ _ _ _ _ _
 |1,_=>exact YG w _ _ _ _ _ _ _ _ _ _
 |2,_=>exact YH w _ _ _ _ _ _ _ _ _ _
 |3,_=>exact YI w _ _ _ _ _ _ _ _ _ _
 |4,_=>exact YJ w _ _ _ _ _ _ _ _ _ _
def Tx (W:Ln)(i c b f g j k:Nat)(a0:W.length=5)(p:∀x∈W,x<=3000000000000000000000000000000000)(R:W=[b,f,g,j,k])(hi:i<5)(r:c=ri W i):
 ∃h l s d z m:Nat,h<163000000000000/\l<18446744073709551616/\s<18446744073709551616/\d<=1/\m<=1400000000000000000/\
 (∀w:World,(Instr.index 214 (.agg #[.int .u64 (eH b:Nat), .int .u64 (fC b:Nat), .int .u64 (eH f:Nat), .int .u64 (fC f:Nat), .int .u64 (eH g:Nat), .int .u64 (fC g:Nat), .int .u64 (eH j:Nat), .int .u64 (fC j:Nat), .int .u64 (eH k:Nat), .int .u64 (fC k:Nat)]) (.int .i64 i)).run prog w= .ok (.agg #[.int .u64 h, .int .u64 l]) w)/\
 (∀w:World,(callFunc 142 #[.int .u64 l, .int .u64 c, .int .u64 0]).run prog w= .ok (.value (.tuple #[.int .u64 s, .int .u64 d])) w)/\
 s%2251799813685248=z/\((h+d)*8192)|||(s/2251799813685248)=m/\m=ri W (i+1)/\(oQ W i).set i z=oQ W (i+1):=by
 have u:i<W.length:=pm
 have hn:=p _ (iE u);have C:=KY W p i;rw[<-r]at C;obtain ⟨s,d,ls,ld,I,J,hh,P⟩:=acq W[i] c hn C;obtain ⟨U,g2⟩:=Tw W i a0 u;have a1:=KY W p (i+1);refine ⟨eH W[i],fC W[i],s,d,_,_,hh,dQ _ pm,ls,ld,a1,?_,I,J,?_,rfl,?_⟩
 ·intro w;subst R;exact YE w b f g j k i u
 ·rw[P,g2,r]
 rw[r,U]
def CX w a b (ha:gR a)(hb:gR b):
 Calls prog 87 #[N5 a,N5 b] w (zk (aU a*aU b) w):=by
 obtain ⟨B,hB⟩:=kq w.heap.size;have h7:=ha.le;have h9:=hb.le;obtain ⟨a0,a1,a2,a3,a4,ea⟩:=cX ha.length;obtain ⟨b0,b1,b2,b3,b4,eb⟩:=cX hb.length;obtain ⟨x,P⟩:=kq ((((w.alloc (.cells (a.map dV).toArray 144)).alloc (.cells (b.map dV).toArray 144)).alloc (.cells ([0,0,0,0,0].map dV).toArray 144)).alloc (.cells (uR [0,0,0,0,0]).toArray 214));have s1:(w.alloc (.cells (a.map dV).toArray 144)).heap.size=B+1:=by rw[hB];simp
 have s2:((w.alloc (.cells (a.map dV).toArray 144)).alloc (.cells (b.map dV).toArray 144)).heap.size=B+1+1:=by rw[hB];simp
 have s3:(((w.alloc (.cells (a.map dV).toArray 144)).alloc (.cells (b.map dV).toArray 144)).alloc (.cells ([0,0,0,0,0].map dV).toArray 144)).heap.size=B+1+1+1:=by rw[hB];simp
 have bA:NB x B a:=by rw[P,hB];exact cG (cG (cG (aO w _)))
 have bB:NB x (B+1) b:=by rw[P,<-s1];exact cG (cG (aO _ _))
 have bR:NB x (B+1+1) [0,0,0,0,0]:=by rw[P,<-s2];exact cG (aO _ _)
 have bW:kR x (B+1+1+1) (jB a b 0 0):=by rw[P,<-s3];exact aO _ _
 have i4:w.grownBy x none:=by rw[P];exact aF (aF (aF (aF (ak w none) _) _) _) _
 have HA:=Hq bA;have f8:=Hq bB;have HR:=Hq bR;have HW:=Hq bW;have HG:=Hq i4;have HB:=Hq hB;have HX:=Hq P;have g0:=Hq ea;have d7:=Hq eb;have d6:=Hq h7;have d0:=Hq h9;have l1:=Hq ha;have l2:=Hq hb;have kA:=bA;rw[ea]at kA;obtain ⟨⟨p0,p1,p2,p3,p4⟩,_⟩:=kA.cX;have h2:N5 a= .agg #[.int .u64 a0, .int .u64 a1, .int .u64 a2, .int .u64 a3, .int .u64 a4]:=by rw[ea];rfl
 have h3:N5 b= .agg #[.int .u64 b0, .int .u64 b1, .int .u64 b2, .int .u64 b3, .int .u64 b4]:=by rw[eb];rfl
 have j1:x=(((w.alloc (.cells #[.int .u64 a0, .int .u64 a1, .int .u64 a2, .int .u64 a3, .int .u64 a4] 144)).alloc (.cells #[.int .u64 b0, .int .u64 b1, .int .u64 b2, .int .u64 b3, .int .u64 b4] 144)).alloc (.cells #[.int .u64 0, .int .u64 0, .int .u64 0, .int .u64 0, .int .u64 0] 144)).alloc (.cells RS 214):=by rw[P,ea,eb];rfl
 have g7:=Hq j1;rw[h2,h3];clear bA bB bR bW i4 hB P ea eb h7 h9 ha hb kA h2 h3 j1 s1 s2 s3;go_enter func87,ntmps87;go_upto_region 2with(fail);rw[<-HB.out,<-g7.out];go_wp2_with fail;go_loopw [6,7,8,9,10,19,23,24] (λv6 v7 v8 v9 k7 vi m0 m3 wr=>∃i:Nat,i<=5/\vi= .int .i64 i/\Hid (kR wr (B+1+1+1) (jB a b i 0))/\Hid (x.grownBy wr (some (B+1+1+1)))) (λ_ _ _ _ _ vi _ _ _=>5-(intOf vi).toNat)
 case atStart=>exact ⟨0,pm,rfl,HW,Hq (ak _ _)⟩
 case round=>
  clear HW p0 p1 p2 p3 p4;obtain ⟨i,hi,rfl,g,h⟩:=hrel;by_cases b9:i<5
  ·have hd:decide ((i:Int)<5)=true:=pp;obtain ⟨xa,f7⟩:=kq (a.getD i 0);have ix:∀W:World,(Instr.index 144 (.agg #[.int .u64 a0, .int .u64 a1, .int .u64 a2, .int .u64 a3, .int .u64 a4]) (.int .i64 i)).run prog W= .ok (.int .u64 xa) W:=λW=>by have:=Oc W a0 a1 a2 a3 a4 i (by simpa using b9);rw[this,f7,g0.out,Ds (by simpa using b9)]
   have g6:=Hq f7;clear f7;have bB:NB wr (B+1) b:=ab.kept f8.out h.out pu;rw[d7.out]at bB;obtain ⟨⟨p0,p1,p2,p3,p4⟩,_⟩:=bB.cX;clear bB;go_wp2_with fail;clear p0 p1 p2 p3 p4 ix;go_loopw [8,9,10,24] (λv8 v9 k7 vk wr=>∃k:Nat,k<=5/\vk= .int .i64 k/\Hid (kR wr (B+1+1+1) (jB a b i k))/\Hid (x.grownBy wr (some (B+1+1+1)))) (λ_ _ _ vk _=>5-(intOf vk).toNat)
   case atStart=>exact ⟨0,pm,rfl,g,h⟩
   case round=>
    clear g h;obtain ⟨k,hk,rfl,g,h⟩:=hrel;by_cases i6:k<5
    ·obtain ⟨yb,d5⟩:=kq (b.getD k 0);have iy:∀W:World,(Instr.index 144 (.agg #[.int .u64 b0, .int .u64 b1, .int .u64 b2, .int .u64 b3, .int .u64 b4]) (.int .i64 k)).run prog W= .ok (.int .u64 yb) W:=λW=>by have:=Oc W b0 b1 b2 b3 b4 k (by simpa using i6);rw[this,d5,d7.out,Ds (by simpa using i6)]
     have k5:=uo d0.out k;rw[<-d5]at k5;have g8:=Hq d5;clear d5;by_cases h5:5<=i+k
     ·obtain ⟨f,b6,k4⟩:∃f:Nat,(i+k)%5=f/\(i:Int)+(k:Int)-5=(f:Int):=⟨(i+k)%5,rfl,pm⟩;obtain ⟨y,j,a8⟩:∃y:Nat,y=(if 5<=i+k then 19*b.getD k 0 else b.getD k 0)/\19*(yb:Int)=(y:Int):=⟨_,rfl,by rw[av h5,g8.out];simp⟩;have m4:IntKind.u64.wrap (19*(yb:Int))=19*(yb:Int):=dE _ pm;have m5:IntKind.u64.wrap (y:Int)=(y:Int):=dE _ pm;have q:(5:Int)<=(i:Int)+(k:Int):=pm;obtain ⟨n,a6,e7,b'⟩:=Rl wr (B+1+1+1) a b i k f xa y d6.out d0.out pm pm b6 g6.out j g.out;obtain ⟨c0,c1⟩:=a6 _ g.out;have a9:=Hq a6;have b7:=ab.frozen g.out (f*2);have b8:=ab.frozen g.out (f*2+1);have d':=Hq b';have a':=g;have i0:(0:Int)<=(f:Int):=pm;have i1:(f:Int)<5:=pm;have d9:=h;clear b' a6 g b6 j h;go_wp2_with fail;refine ax (e7 _) λJ u=>?_;have d8:=Hq u;have r:kR J (B+1+1+1) (jB a b i k):=ab.kept a'.out u nofun
      clear c0 c1 b7 b8;obtain ⟨c0,c1⟩:=a9.out J r;have b7:=ab.frozen r (f*2);have b8:=ab.frozen r (f*2+1);have e5:=Hq r;clear r u a9 a';go_wp2;go_roundw
      case rel=>exact ⟨k+1,pm,by go_num,Hq (d'.out J e5.out),Hq (aw (aw (ai d9.out (eo d8.out)) _ _) _ _)⟩
      case measure=>simp[intOf];omega
     obtain ⟨f,b6,k4⟩:∃f:Nat,(i+k)%5=f/\(i:Int)+(k:Int)=(f:Int):=⟨(i+k)%5,rfl,pm⟩;obtain ⟨y,j,a8⟩:∃y:Nat,y=(if 5<=i+k then 19*b.getD k 0 else b.getD k 0)/\yb=y:=⟨_,rfl,by rw[au h5,g8.out]⟩;have q:¬(5:Int)<=(i:Int)+(k:Int):=pm;rw[a8]at iy;obtain ⟨n,a6,e7,b'⟩:=Rl wr (B+1+1+1) a b i k f xa y d6.out d0.out pm pm b6 g6.out j g.out;obtain ⟨c0,c1⟩:=a6 _ g.out;have a9:=Hq a6;have b7:=ab.frozen g.out (f*2);have b8:=ab.frozen g.out (f*2+1);have d':=Hq b';have a':=g;have i0:(0:Int)<=(f:Int):=pm;have i1:(f:Int)<5:=pm;have d9:=h;clear b' a6 g b6 j h;go_wp2_with fail;refine ax (e7 _) λJ u=>?_;have d8:=Hq u;have r:kR J (B+1+1+1) (jB a b i k):=ab.kept a'.out u nofun
     clear c0 c1 b7 b8;obtain ⟨c0,c1⟩:=a9.out J r;have b7:=ab.frozen r (f*2);have b8:=ab.frozen r (f*2+1);have e5:=Hq r;clear r u a9 a';go_wp2;go_roundw
     case rel=>exact ⟨k+1,pm,by go_num,Hq (d'.out J e5.out),Hq (aw (aw (ai d9.out (eo d8.out)) _ _) _ _)⟩
     case measure=>simp[intOf];omega
    obtain rfl:k=5:=pm;go_wp2;go_roundw
    case rel=>exact ⟨i+1,pm,by go_num,Hq g.out,h⟩
    case measure=>simp[intOf];omega
  obtain rfl:i=5:=pm
  obtain ⟨W,b5⟩:=kq (jB a b 5 0);have e6:W.length=5:=by rw[b5];exact QT a b 5 0
  have h4:∀x∈W,x<=3000000000000000000000000000000000:=by rw[b5];exact QS d6.out d0.out 5 0 pm pm
  have h8:kR wr (B+1+1+1) W:=by rw[b5];exact g.out
  have k2:=Hq b5;clear g b5;obtain ⟨n0,n1,n2,n3,n4,eW⟩:=cX e6;obtain ⟨O,hO⟩:=kq wr.heap.size;obtain ⟨y,j⟩:=kq (wr.alloc (.cells #[.int .u64 0, .int .u64 0, .int .u64 0, .int .u64 0, .int .u64 0] 144));have bR:NB wr (B+1+1) [0,0,0,0,0]:=ab.kept HR.out h.out pu;have i7:=ab.lt bR;have bO:NB y O (oQ W 0):=by rw[j,hO];exact aO _ _
  have g9:NB y (B+1+1) [0,0,0,0,0]:=by rw[j];exact cG bR
  have i5:w.grownBy y none:=by rw[j];exact aF (cJ HG.out h.out (by have:=HB.out;omega)) _
  have a5:kR y (B+1+1+1) W:=by rw[j];exact cG h8
  rw[eW]at a5;obtain ⟨c0,c1⟩:=a5.cell 0 pu;obtain ⟨c2,c3⟩:=a5.cell 1 pu;obtain ⟨c4,c5⟩:=a5.cell 2 pu;obtain ⟨c6,c7⟩:=a5.cell 3 pu;obtain ⟨c8,c9⟩:=a5.cell 4 pu;have R:=Hq e6;have g5:=Hq h4;have j3:=Hq eW;have HO:=Hq hO;have HY:=Hq j;have f9:=Hq bO;have j8:=Hq g9;have j7:=Hq i5;have g3:=Hq i7;simp only[Bp,Bq,vz,ef,xv,Nat.reduceMul,Nat.reduceAdd]at c0 c1 c2 c3 c4 c5 c6 c7 c8 c9;clear e6 h4 h8 a5 eW hO j bO bR g9 i5 i7 h HR HG HX g7 HA f8;go_upto_region 16with(fail);rw[<-HO.out,<-HY.out];go_wp2_with fail;clear c0 c1 c2 c3 c4 c5 c6 c7 c8 c9;go_loopw [12,13,14,15,16,17,48] (λk8 l6 l7 l8 l9 l' vi wr=>∃i c:Nat,i<=5/\vi= .int .i64 i/\k8= .int .u64 c/\c<=1400000000000000000/\Hid (c=ri W i)/\Hid (NB wr O (oQ W i))/\Hid (y.grownBy wr (some O))) (λ_ _ _ _ _ _ vi _=>5-(intOf vi).toNat)
  case atStart=>exact ⟨0,0,pm,rfl,rfl,pm,Hq rfl,f9,Hq (ak _ _)⟩
  case round=>
   clear f9;obtain ⟨i,c,hi,rfl,rfl,l3,hc,hZ,h⟩:=hrel;by_cases b9:i<5
   ·obtain ⟨hw,l,s,d,z,c',lh,ll,ls,ld,lc,ix,ad,es,ec,h1,U⟩:=Tx W i c n0 n1 n2 n3 n4 R.out g5.out j3.out b9 hc.out;have m1:bits .and .u64 (s:Int) 2251799813685247=(z:Int):=(by rw[th s ls,es]);have w1:IntKind.u64.wrap ((hw:Int)+(d:Int))=(hw:Int)+(d:Int):=dE _ pm;have j2:=Hq h1;have l0:=Hq U;have k':=Hq es;have k9:=Hq ec;have HC:=hc;have HZ:=hZ;have j5:=h;have bZ:NB (wr.alloc (.cells #[.int .u64 hw, .int .u64 l] 213)) O (oQ W i):=cG HZ.out;obtain ⟨zo,cO⟩:∃zo:Nat,(wr.alloc (.cells #[.int .u64 hw, .int .u64 l] 213)).cell? ⟨O,i,none⟩=some (.int .u64 zo):=⟨_,bZ.cell i (by rw[Lf W i R.out pm];exact b9)⟩;have fO:=bZ.frozen i;have a7:=bZ.set i z;rw[U]at a7;have j':=Hq a7;have j6:=Hq (aw (aF j5.out (.cells #[.int .u64 hw, .int .u64 l] 213)) i (.int .u64 z));have i0:(0:Int)<=(i:Int):=pm;have i1:(i:Int)<5:=pm;have o1:bits .or .u64 (((hw:Int)+(d:Int))*8192) ((s:Int)/2251799813685248)=(c':Int):=by have:=tR ((hw+d)*8192) (s/2251799813685248) pm pm;rw[ec]at this;simpa using this
    clear h1 U es ec hc hZ h bZ a7;go_wp2_with fail;all_goals go_roundw
    all_goals first
     |exact ⟨i+1,c',pm,by go_num,rfl,lc,j2,j',j6⟩
     |(simp[intOf];omega)
   obtain rfl:i=5:=pm;obtain ⟨q1,q2⟩:=Tv W R.out;obtain ⟨m,p,z2,z3,z4,U⟩:=cX (Lf W 5 R.out pm);have h':c=(bU W 0).2:=hc.out.trans q2;have mm:(bU W 0).1=[m,p,z2,z3,z4]:=q1.symm.trans U;have d1:=hZ.out;rw[U]at d1;have d4:=ud W 0;rw[mm]at d4;have k0:=d4 m pu;have k1:=d4 p pu;obtain ⟨I,e'⟩:=kq (c%2251799813685248);obtain ⟨C,e9⟩:=kq (c/2251799813685248);have eC:om W=[m+19*I,p+19*C,z2,z3,z4]:=by unfold om;simp only[mm,<-h',<-e',<-e9];rfl
   have m1:bits .and .u64 (c:Int) 2251799813685247=(I:Int):=(by rw[th c pm,e']);have m2:(c:Int)/2251799813685248=(C:Int):=(by rw[e9];rfl);have l5:I<2251799813685248:=pm;have l4:C<=622:=pm;have e8:=abE W R.out g5.out;have d2:=abF W R.out;have f5:=xM (om W) d2 e8;have i2:=xN (om W) d2;have i':=abG W R.out;have HC:∀V:World,Calls prog 140 #[N5 (om W)] V (Grown (N5 (fR (om W))) V):=λV=>xS V _ d2 e8;have j0:aU (fR (om W))%PP=(aU a*aU b)%PP:=by rw[i2,i',k2.out];have g1:=g0.out;have g2:=d7.out;rw[g1,g2];exact abI a0 a1 a2 a3 a4 b0 b1 b2 b3 b4
   obtain ⟨r0,r1,r2,r3,r4,h6⟩:=cX f5.length;rw[h6,eC,ma,ma]at HC;have a7:=(d1.set 0 (m+19*I)).set 1 (p+19*C);have i3:=aw (aw h.out 0 (.int .u64 (m+19*I:Nat))) 1 (.int .u64 (p+19*C:Nat));have f6:NB ((wr.setCell ⟨O,0,none⟩ (.int .u64 ((m:Int)+19*(I:Int)))).setCell ⟨O,1,none⟩ (.int .u64 ((p:Int)+19*(C:Int)))) O [m+19*I,p+19*C,z2,z3,z4]:=by simpa using a7
   have d3:y.grownBy ((wr.setCell ⟨O,0,none⟩ (.int .u64 ((m:Int)+19*(I:Int)))).setCell ⟨O,1,none⟩ (.int .u64 ((p:Int)+19*(C:Int)))) (some O):=by simpa using i3
   obtain ⟨y2,a8⟩:=kq ((wr.setCell ⟨O,0,none⟩ (.int .u64 ((m:Int)+19*(I:Int)))).setCell ⟨O,1,none⟩ (.int .u64 ((p:Int)+19*(C:Int))));rw[<-a8]at f6 d3;have h0:NB y2 (B+1+1) [0,0,0,0,0]:=ab.kept j8.out d3 (by have:=HO.out;have:=g3.out;simp;omega);obtain ⟨⟨e0,e1,e2,e3,e4⟩,_⟩:=f6.cX;obtain ⟨⟨c0,c1,c2,c3,c4⟩,f0,f1,f2,f3,f4⟩:=d1.cX;have g4:=Hq (And.intro (h6▸f5) (h6▸j0));have k3:=Hq a8;have j9:=Hq h0;have j4:=Hq (cJ j7.out d3 (by have:=HO.out;have:=g3.out;have:=HB.out;omega));obtain ⟨u0,i8⟩:=kq (m+19*I);obtain ⟨u1,i9⟩:=kq (p+19*C);rw[<-i8]at e0 HC;rw[<-i9]at e1 HC;have f':=HC;clear i8 i9 HC a7 i3 f6 d3 a8 h0 d1 d4 f5 i2 i' j0 h6 eC h' mm q1 q2 U e' e9 e8 d2 hc hZ h;go_upto_region 26with(fail);rw[<-k3.out];clear c0 c1 c2 c3 c4 f0 f1 f2 f3 f4;go_wp2_with fail;refine ax (f' _) λJ u=>?_;have g':NB J (B+1+1) [0,0,0,0,0]:=ab.kept j9.out u nofun
   obtain ⟨⟨m,p,z2,z3,z4⟩,f0,f1,f2,f3,f4⟩:=g'.cX;have k6:=Hq (vX (B:=B+1+1) (ai j4.out u) (by have:=HB.out;omega) (.int .u64 r0) (.int .u64 r1) (.int .u64 r2) (.int .u64 r3) (.int .u64 r4));clear e0 e1 e2 e3 e4 g' u f';go_wp2_with fail;refine bodyPost_ret (v:= .agg #[.int .u64 r0, .int .u64 r1, .int .u64 r2, .int .u64 r3, .int .u64 r4]) (by simp[results,results87,go_sem,m,p,z2,z3,z4]) rfl ?_;exact ⟨[r0,r1,r2,r3,r4],rfl,g4.out.1,g4.out.2,k6.out⟩
def wJ (u v k:Nat)(c:u<18446744073709551616)(f:v<18446744073709551616)(p q:Nat)(d:p<18446744073709551616):
 bits .or .u64 (u:Int) (IntKind.u64.wrap ((v:Int)*(p:Int)))=((u|||v*p%18446744073709551616:Nat):Int):=by
 have b:IntKind.u64.wrap ((v:Int)*(p:Int))=((v*p%18446744073709551616:Nat):Int):=by rw[oz,Int.natCast_emod,Int.natCast_mul];rfl
 rw[b,tR _ _ c (dQ _ pm)]
def word(s:Lb)(i:Nat):Nat:=aQ ((s.drop (8*i)).take 8)
def word_lt s (i:Nat):word s i<18446744073709551616:=te _ (by rw[aJ];omega)
def acA (s:Lb)(h:s.length=32):aQ s=word s 0+18446744073709551616*(word s 1+18446744073709551616*(word s 2+18446744073709551616*word s 3)):=by
 have step:∀(l:Lb),8<=l.length->aQ l=aQ (l.take 8)+18446744073709551616*aQ (l.drop 8):=λl b=>by
  conv=>lhs;rw[<-pJ 8 l]
  rw[Al,aJ,iF b]
 unfold word;rw[step s pm,step (s.drop 8) (by rw[aR];omega),vx,step (s.drop (8+8)) (by rw[aR];omega),vx];simp only[vz,oA,xv,Nat.reduceMul,Nat.reduceAdd];rw[cE (l:=s.drop 24) (by rw[aR];omega)]
def KB(w:World)(B:Nat)(t:TypeId)(l:Ln):Prop:=ab w B t (l.map dV)
def KB.cell (h:KB w B t l)(i:Nat)(b:i<l.length):w.cell? ⟨B,i,none⟩=some (.int .u64 (l[i]:Nat)):=by rw[ab.cell h];simp[dV,b]
def KB.set (h:KB w B t l)(i n:Nat):KB (w.setCell ⟨B,i,none⟩ (.int .u64 n)) B t (l.set i n):=by have:=ab.set h i (dV n);unfold KB;rw[pP];exact this
def yO(s:Lb)(i:Nat):Ln:=(List.range 4).map λj=>if j<i then word s j else 0
def acn s (i:Nat):(yO s i).length=4:=by simp[yO]
def aco s (i:Nat)(b:i<4):(yO s i).set i (word s i)=yO s (i+1):=by
 match i,b with
 |0,_=>rfl
 |1,_=>rfl
 |2,_=>rfl
 |3,_=>rfl
def RO(s:Lb)(w:World)(e:Ending)(b:World):Prop:=∃l,e= .returned (.tuple #[N5 l, .bool true])/\gR l/\aU l%PP=aQ s%PP/\w.grownBy b none
def VH w (s:Lb)(hs:s.length=32):Calls prog 138 #[S s] w (RO s w):=by
 obtain ⟨B,hB⟩:=kq w.heap.size;obtain ⟨x,R⟩:=kq ((w.alloc (.cells #[.int .u64 0, .int .u64 0, .int .u64 0, .int .u64 0, .int .u64 0] 144)).alloc (.cells #[.int .u64 0, .int .u64 0, .int .u64 0, .int .u64 0] 282));have s1:(w.alloc (.cells #[.int .u64 0, .int .u64 0, .int .u64 0, .int .u64 0, .int .u64 0] 144)).heap.size=B+1:=by rw[hB];simp
 have r:NB x B [0,0,0,0,0]:=by rw[R,hB];exact cG (aO _ _)
 have bW:KB x (B+1) 282 (yO s 0):=by rw[R,<-s1];exact aO _ _
 have c7:w.grownBy x none:=by rw[R];exact aF (aF (ak w none) _) _
 have e9:(s.length:Int)=32:=pm
 have HR:=Hq r;have HW:=Hq bW;have HG:=Hq c7;have HB:=Hq hB;have HX:=Hq R;have HS:=Hq hs;clear r bW c7 hB R hs s1;unfold S;go_enter func138,ntmps138;go_upto_region 4with(fail);rw[<-HB.out,<-HX.out];go_wp2_with fail;go_loopw [5,11] (λv5 vi wr=>∃i:Nat,i<=4/\vi= .int .i64 i/\Hid (KB wr (B+1) 282 (yO s i))/\Hid (x.grownBy wr (some (B+1)))) (λ_ vi _=>4-(intOf vi).toNat)
 case atStart=>exact ⟨0,pm,rfl,HW,Hq (ak _ _)⟩
 case round=>
  clear HW;obtain ⟨i,hi,rfl,C,P⟩:=hrel;by_cases c8:i<4
  ·obtain ⟨z,cz⟩:∃z:Nat,wr.cell? ⟨B+1,i,none⟩=some (.int .u64 z):=⟨_,C.out.cell i (by rw[acn];exact c8)⟩;have fz:=ab.frozen C.out i;have u:=C.out.set i (word s i);rw[aco s i c8]at u;have d9:=Hq u;have d7:=Hq (aw P.out i (.int .u64 (word s i:Nat)));have i0:(0:Int)<=(i:Int):=pm;have i1:(i:Int)<4:=pm;have b1:(8:Int)*(i:Int)<=(s.length:Int):=pm;clear u C P;have d0:({data:=s.toArray}:ByteArray).extract (8*i) s.length=⟨(s.drop (8*i)).toArray⟩:=by rw[dP];congr 2;rw[cE (by rw[aR];omega)]
   have RL:∀W:World,Calls prog 92 #[.string (({data:=s.toArray}:ByteArray).extract (8*i) s.length)] W (λe w'=>e= .returned (.int .u64 (word s i:Nat))/\W=w'):=λW=>by rw[d0];exact qG W (s.drop (8*i)) (by have:=HS.out;rw[aR];omega)
   clear d0;generalize word s i=wi at*;go_wp2_with fail;refine (RL _).mono ?_;rintro e b ⟨rfl,rfl⟩;go_wp2_with fail;all_goals go_roundw
   all_goals first
    |exact ⟨i+1,pm,by go_num,d9,d7⟩
    |(simp[intOf];omega)
  obtain rfl:i=4:=pm
  have k0:=word_lt s 0;have k1:=word_lt s 1;have k2:=word_lt s 2;have k3:=word_lt s 3;have c':=P8 (word s 0) (word s 1) (word s 2) (word s 3) k0 k1 k2 k3;rw[<-acA s HS.out]at c';obtain ⟨g1,g2⟩:=c';have I:KB wr (B+1) 282 [word s 0,word s 1,word s 2,word s 3]:=C.out;generalize word s 0=m at*;generalize word s 1=p at*;generalize word s 2=b at*;generalize word s 3=h at*;have c0:=I.cell 0 pu;have c1:=I.cell 1 pu;have c2:=I.cell 2 pu;have c3:=I.cell 3 pu;simp only[Bp,Bq]at c0 c1 c2 c3;obtain ⟨o1,a5⟩:=kq (m/2251799813685248|||p*8192%18446744073709551616);obtain ⟨o2,a6⟩:=kq (p/274877906944|||b*67108864%18446744073709551616);obtain ⟨o3,a7⟩:=kq (b/33554432|||h*549755813888%18446744073709551616);have d1:o1<18446744073709551616:=by rw[a5];exact ow (n:=64) pm pm
  have d2:o2<18446744073709551616:=by rw[a6];exact ow (n:=64) pm pm
  have d4:o3<18446744073709551616:=by rw[a7];exact ow (n:=64) pm pm
  have q1:bits .or .u64 ((m:Int)/2251799813685248) (IntKind.u64.wrap ((p:Int)*8192))=(o1:Int):=by rw[a5];exact wJ (m/2251799813685248) p 0 pm k1 8192 0 pm
  have q2:bits .or .u64 ((p:Int)/274877906944) (IntKind.u64.wrap ((b:Int)*67108864))=(o2:Int):=by rw[a6];exact wJ (p/274877906944) b 0 pm k2 67108864 0 pm
  have q3:bits .or .u64 ((b:Int)/33554432) (IntKind.u64.wrap ((h:Int)*549755813888))=(o3:Int):=by rw[a7];exact wJ (b/33554432) h 0 pm k3 549755813888 0 pm
  obtain ⟨j,a9⟩:=kq (m%2251799813685248);obtain ⟨c,b0⟩:=kq (o1%2251799813685248);obtain ⟨d,b2⟩:=kq (o2%2251799813685248);obtain ⟨f,b3⟩:=kq (o3%2251799813685248);obtain ⟨g,b4⟩:=kq (h/4096%2251799813685248);obtain ⟨t,ht⟩:=kq (h/9223372036854775808);have m0:bits .and .u64 (m:Int) 2251799813685247=(j:Int):=by rw[th m k0,a9]
  have m1:bits .and .u64 (o1:Int) 2251799813685247=(c:Int):=by rw[th o1 d1,b0]
  have m2:bits .and .u64 (o2:Int) 2251799813685247=(d:Int):=by rw[th o2 d2,b2]
  have m3:bits .and .u64 (o3:Int) 2251799813685247=(f:Int):=by rw[th o3 d4,b3]
  have m4:bits .and .u64 ((h:Int)/4096) 2251799813685247=(g:Int):=by rw[b4];exact th (h/4096) pm
  have mt:(h:Int)/9223372036854775808=(t:Int):=by rw[ht];rfl
  have hL:AQ m p b h=[j+19*t,c,d,f,g]:=by unfold AQ Ec Ed Ee;rw[<-a5,<-a6,<-a7,<-a9,<-b0,<-b2,<-b3,<-b4,<-ht]
  rw[hL]at g1 g2;have la:j<2251799813685248:=pm
  have e':t<=1:=pm
  obtain ⟨k,a'⟩:=kq (j+19*t);have e8:(j:Int)+19*(t:Int)=(k:Int):=by rw[a'];simp
  rw[<-a']at g1 g2;have HC:∀V:World,Calls prog 140 #[N5 [k,c,d,f,g]] V (Grown (N5 (fR [k,c,d,f,g])) V):=λV=>xS V _ rfl g2;have b7:=xM [k,c,d,f,g] rfl g2;have b5:=xN [k,c,d,f,g] rfl;rw[g1]at b5;obtain ⟨r0,r1,r2,r3,r4,h6⟩:=cX b7.length;rw[h6,ma,ma]at HC;have b9:=Hq (And.intro (h6▸b7) (h6▸b5));have r:NB wr B [0,0,0,0,0]:=ab.kept HR.out P.out pu;have e7:=Hq r;have d6:=Hq (cJ HG.out P.out (by have:=HB.out;omega));have b8:=HC;obtain ⟨N,hN⟩:=kq wr.heap.size;obtain ⟨y,J⟩:=kq (wr.alloc (.cells #[.int .u64 j, .int .u64 c, .int .u64 d, .int .u64 f, .int .u64 g] 144));have e5:B<N:=by rw[hN];exact ab.lt r
  have U:NB y N [j,c,d,f,g]:=by rw[J,hN];exact aO _ _
  have c6:KB y (B+1) 282 [m,p,b,h]:=by rw[J];exact cG I
  have d3:=c6.cell 3 pu;simp only[Bp,Bq]at d3;have n0:=U.cell 0 pu;have fn:=U.frozen 0;have u:=U.set 0 k;have c5:NB y B [0,0,0,0,0]:=by rw[J];exact cG r
  obtain ⟨y2,a8⟩:=kq (y.setCell ⟨N,0,none⟩ (.int .u64 k));rw[<-a8]at u;have c9:NB y2 N [k,c,d,f,g]:=u;have gy:y.grownBy y2 (some N):=by rw[a8];exact aw (ak _ _) _ _
  have b':NB y2 B [0,0,0,0,0]:=ab.kept c5 gy pp;have d8:=Hq b';obtain ⟨⟨e0,e1,e2,e3,e4⟩,_⟩:=c9.cX;have d5:=Hq (cJ (aF d6.out (.cells #[.int .u64 j, .int .u64 c, .int .u64 d, .int .u64 f, .int .u64 g] 144)) (J▸gy) (by have:=HB.out;omega));have HN:=Hq hN;have HY:=Hq J;have d':=Hq a8;clear hN J e5 U c6 u c5 a8 c9 gy b';clear HC b7 b5 h6 a5 a6 a7 a9 b0 b2 b3 b4 ht hL g1 g2 a' C I P r d1 d2 d4;go_upto_region 10with(fail);rw[<-HN.out,<-HY.out];clear c0 c1 c2 c3;go_upto_region 11with(fail);rw[<-d'.out];clear n0 fn d3;go_wp2_with fail;refine ax (b8 _) λb b6=>?_;have c4:NB b B [0,0,0,0,0]:=ab.kept d8.out b6 nofun
  obtain ⟨⟨z0,z1,z2,z3,z4⟩,f0,f1,f2,f3,f4⟩:=c4.cX;have e6:=Hq (vX (B:=B) (ai d5.out b6) (by have:=HB.out;omega) (.int .u64 r0) (.int .u64 r1) (.int .u64 r2) (.int .u64 r3) (.int .u64 r4));clear e0 e1 e2 e3 e4 c4 b6 b8;go_wp2_with fail;refine bodyPost_ret (v:= .tuple #[.agg #[.int .u64 r0, .int .u64 r1, .int .u64 r2, .int .u64 r3, .int .u64 r4], .bool true]) (by simp[results,results138,go_sem,z0,z1,z2,z3,z4]) rfl ?_;exact ⟨[r0,r1,r2,r3,r4],rfl,b9.out.1,b9.out.2,e6.out⟩
def NB.Jj {b c d f g:Nat}(h:NB w B [b,c,d,f,g])(x0 x1 x2 x3 x4:Nat):
 NB (((((w.setCell ⟨B,0,none⟩ (.int .u64 x0)).setCell ⟨B,1,none⟩ (.int .u64 x1)).setCell ⟨B,2,none⟩ (.int .u64 x2)).setCell ⟨B,3,none⟩ (.int .u64 x3)).setCell ⟨B,4,none⟩ (.int .u64 x4)) B [x0,x1,x2,x3,x4]:=
 ((((h.set 0 x0).set 1 x1).set 2 x2).set 3 x3).set 4 x4
def C7 (w:World)(b c d f:Int):(Instr.index 282 (.agg #[.int .u64 b, .int .u64 c, .int .u64 d, .int .u64 f]) (.int .i64 0)).run prog w= .ok (.int .u64 b) w:=qr
def C8 (w:World)(c b d f:Int):(Instr.index 282 (.agg #[.int .u64 c, .int .u64 b, .int .u64 d, .int .u64 f]) (.int .i64 1)).run prog w= .ok (.int .u64 b) w:=qr
def C9 (w:World)(c d b f:Int):(Instr.index 282 (.agg #[.int .u64 c, .int .u64 d, .int .u64 b, .int .u64 f]) (.int .i64 2)).run prog w= .ok (.int .u64 b) w:=qr
def C' (w:World)(c d f b:Int):(Instr.index 282 (.agg #[.int .u64 c, .int .u64 d, .int .u64 f, .int .u64 b]) (.int .i64 3)).run prog w= .ok (.int .u64 b) w:=qr
def B9 (w:World)(b c d f:Nat)(k:Nat)(g:k<[b,c,d,f].length):
 (Instr.index 282 (.agg #[.int .u64 b, .int .u64 c, .int .u64 d, .int .u64 f]) (.int .i64 k)).run prog w= .ok (.int .u64 ([b,c,d,f][k]:Nat)) w:=by
 match k,g with
 |0,_=>exact C7 w _ _ _ _
 |1,_=>exact C8 w _ _ _ _
 |2,_=>exact C9 w _ _ _ _
 |3,_=>exact C' w _ _ _ _
def qE(l:Ln):Lb:=l.flatMap λn=>aP n 8
def abg l:(qE l).length=8*l.length:=by
 induction l with
 |nil=>rfl
 |cons n l b=>simp only[qE,ox,aK,gE,eI]at b⊢;omega
def abh (l:Ln)(n:Nat):qE (l++[n])=qE l++aP n 8:=by simp[qE]
def zI(L:Ln)(c i:Nat):Nat:=(bU (L.take i) c).2
def Le (L:Ln)(c i:Nat)(d:i<L.length):zI L c (i+1)=(L[i]+zI L c i)/2251799813685248:=by have b:L.take (i+1)=L.take i++[L[i]]:=fP d;unfold zI;rw[b,CI]
def VK w (l:Ln)(u:l.length=5)(hb:∀x∈l,x<=9223372036854775808):Calls prog 139 #[N5 l] w (Grown (S (aP (aU l%PP) 32)) w):=by
 obtain ⟨B,hB⟩:=kq w.heap.size;obtain ⟨a0,a1,a2,a3,a4,U⟩:=cX u;obtain ⟨x,hx⟩:=kq (w.alloc (.cells (l.map dV).toArray 144));have bN:NB x B [a0,a1,a2,a3,a4]:=by rw[hx,hB,<-U];exact aO _ _
 have f':w.grownBy x none:=by rw[hx];exact aF (ak w none) _
 have h0:x=w.alloc (.cells #[.int .u64 a0, .int .u64 a1, .int .u64 a2, .int .u64 a3, .int .u64 a4] 144):=by rw[hx,U];rfl
 have a6:=xM l u hb;have a5:=XL l u hb;have g6:∀x∈fR l,x<=9223372036854775808:=λz hz=>by have:=a6.le z hz;omega
 have A1:∀V:World,Calls prog 140 #[N5 l] V (Grown (N5 (fR l)) V):=λV=>xS V l u hb;have A2:∀V:World,Calls prog 140 #[N5 (fR l)] V (Grown (N5 (fR (fR l))) V):=λV=>xS V _ a6.length g6;have hv:aU (fR (fR l))%PP=aU l%PP:=by rw[xN _ a6.length,xN _ u]
 obtain ⟨b0,b1,b2,b3,b4,e1⟩:=cX a6.length;obtain ⟨L,hL⟩:=kq (fR (fR l));rw[<-hL]at a5 hv A2;obtain ⟨x0,x1,x2,x3,x4,e2⟩:=cX a5.1;rw[e1,U,ma,ma]at A1;rw[e1,e2,ma,ma]at A2;obtain ⟨e4,c8⟩:=ZG a5;rw[hv]at c8;obtain ⟨V,hV⟩:=kq (aP (aU l%PP) 32);rw[<-hV];rw[<-c8]at hV;have k0:=bN.cX.1;obtain ⟨p0,p1,p2,p3,p4⟩:=k0;have h1:=Hq bN;have HG:=Hq f';have HB:=Hq hB;have HX:=Hq h0;have HV:=Hq hV;have c6:=Hq e4;have I:=Hq a5;have a9:=Hq e2;have e9:N5 l= .agg #[.int .u64 a0, .int .u64 a1, .int .u64 a2, .int .u64 a3, .int .u64 a4]:=by rw[U];rfl
 rw[e9];clear e9 hv a6 a5 g6 hL e1 e2 U u hb hx h0 bN f' hB hV e4 c8;go_enter func139,ntmps139;go_upto_region 1with(fail);rw[<-HB.out,<-HX.out];go_wp2_with fail;refine ax (A1 _) λw1 d0=>?_;clear p0 p1 p2 p3 p4;go_wp2_with fail;refine ax (A2 _) λw2 d1=>?_;have c7:NB w2 B [a0,a1,a2,a3,a4]:=ab.kept (ab.kept h1.out d0 nofun) d1 nofun
 obtain ⟨⟨z0,z1,z2,z3,z4⟩,f0,f1,f2,f3,f4⟩:=c7.cX;obtain ⟨y,hy⟩:=kq (((((w2.setCell ⟨B,0,none⟩ (.int .u64 x0)).setCell ⟨B,1,none⟩ (.int .u64 x1)).setCell ⟨B,2,none⟩ (.int .u64 x2)).setCell ⟨B,3,none⟩ (.int .u64 x3)).setCell ⟨B,4,none⟩ (.int .u64 x4));have bY:=c7.Jj x0 x1 x2 x3 x4;have g5:w.grownBy y none:=by rw[hy];exact vX (ai (ai HG.out d0) d1) (by have:=HB.out;omega) _ _ _ _ _
 rw[<-hy]at bY;have a8:=Hq bY;have h4:=Hq g5;have HY:=Hq hy;clear c7 d0 d1 hy g5 A1 A2;have b:=I.out.2;rw[a9.out]at b;have k0:=b x0 pu;have k1:=b x1 pu;have k2:=b x2 pu;have k3:=b x3 pu;have k4:=b x4 pu;obtain ⟨⟨c0,c1,J,P,R⟩,g0,g1,g2,g3,g4⟩:=bY.cX;clear b bY;go_upto_region 2with(fail);rw[<-HY.out];clear z0 z1 z2 z3 z4 f0 f1 f2 f3 f4;obtain ⟨q0,d2⟩:=kq ((x0+19)/2251799813685248);have i2:((x0:Int)+19)/2251799813685248=(q0:Int):=by rw[d2];rfl
 have i7:q0<=1:=pm
 have d8:=Hq d2;clear d2;obtain ⟨M,hM⟩:=kq (L.set 0 (L.getD 0 0+19*(bU L 19).2):Ln);have HM:=Hq hM;clear hM;have d4:Hid (NB y B L):=Hq (by rw[a9.out];exact a8.out);go_upto_region 4with(fail);clear c0 c1 J P R g0 g1 g2 g3 g4 i7 i2;go_loop [3,5,19] (λv3 v5 h=>∃i c:Nat,i<=4/\h= .int .i64 i/\v3= .int .u64 c/\c<=19/\Hid (c=zI L 19 (i+1))) (λ_ _ h=>4-(intOf h).toNat)
 case atStart=>exact ⟨0,q0,pm,rfl,rfl,by have:=d8.out;omega,Hq (by rw[Le L 19 0 (by rw[I.out.1];omega)];have e:=a9.out;subst e;exact d8.out)⟩
 case round=>
  obtain ⟨i,c,hi,rfl,rfl,i3,hc⟩:=hrel;by_cases g8:i<4
  ·have k:i+1<L.length:=(by rw[I.out.1];omega);have hx:=I.out.2 L[i+1] (iE k);have hn:=Le L 19 (i+1) k;have i8:y.cell? ⟨B,1+i,none⟩=some (.int .u64 (L[i+1]:Nat)):=by rw[ze 1 i];exact d4.out.cell (i+1) k
   rw[<-hc.out]at hn;generalize L[i+1]=z at*;have h7:=Hq hn;clear hn k;have c':(z+c)/2251799813685248<=19:=pm;go_wp2;go_round
   case rel=>exact ⟨i+1,(z+c)/2251799813685248,pm,by go_num,by congr 1,c',Hq h7.out.symm⟩
   case measure=>simp[intOf];omega
  obtain rfl:i=4:=pm
  have f6:c=(bU L 19).2:=by have:=hc.out;unfold zI at this;rwa[cE (by have:=I.out.1;omega)]at this
  have b6:M=[x0+19*c,x1,x2,x3,x4]:=by rw[HM.out,<-f6,a9.out];rfl
  obtain ⟨⟨c0,c1,J,P,R⟩,g0,g1,g2,g3,g4⟩:=a8.out.cX;have C:=a8.out.set 0 (x0+19*c);obtain ⟨y2,c5⟩:=kq (y.setCell ⟨B,0,none⟩ (.int .u64 ((x0:Int)+19*(c:Int))));have a7:NB y2 B M:=by rw[b6,c5];simpa using C
  have e0:y.grownBy y2 (some B):=by rw[c5];exact aw (ak _ _) _ _
  have e7:M.length=5:=by rw[b6];rfl
  have e8:∀z∈M,z<=2251799813685248+361:=by rw[b6];intro z hz;simp only[bp,dD,dH]at hz;omega
  have a':=Hq e7;have d7:=Hq e8;have d3:=Hq a7;have d5:=Hq (cJ h4.out e0 (by have:=HB.out;omega));have d':=Hq c5;have d6:Hid (uA L=(bU M 0).1):=Hq (by rw[HM.out];rfl);clear f6 b6 C a7 e0 e7 e8 c5 hc;go_upto_region 9with(fail);rw[<-d'.out];clear c0 c1 J P R g0 g1 g2 g3 g4;go_wp2_with fail;clear i3 k0 k1 k2 k3 k4 a8 d4 HY;go_loopw [3,6,34] (λv3 v6 h wr=>∃(i c:Nat),i<=5/\h= .int .i64 i/\v3= .int .u64 c/\c<=4096/\Hid (c=(bU (M.take i) 0).2)/\Hid (NB wr B (mh M i))/\Hid (y2.grownBy wr (some B))) (λ_ _ h _=>5-(intOf h).toNat)
  case atStart=>exact ⟨0,0,pm,rfl,rfl,pm,Hq rfl,Hq (by show NB _ _ ([]++M.drop 0);rw[oA,kP];exact d3.out),Hq (ak _ _)⟩
  case round=>
   obtain ⟨i,c,hi,rfl,rfl,hc,f7,s,hg⟩:=hrel;by_cases g8:i<5
   ·have k:i<M.length:=by rw[a'.out];exact g8
    have i9:=d7.out M[i] (iE k);have cl:=s.out.cell i (by rw[FW];exact k);rw[Lc M i k]at cl;have fr:=s.out.frozen i;obtain ⟨n1,n2⟩:=Ld M i k;rw[<-f7.out]at n1 n2;have C:=(s.out.set i (M[i]+c)).set i ((M[i]+c)%2251799813685248);rw[BZ,n1]at C;have f8:=aw (aw hg.out i (.int .u64 (M[i]+c:Nat))) i (.int .u64 ((M[i]+c)%2251799813685248:Nat));have HS:=Hq (And.intro C f8);have h6:=Hq n2;generalize M[i]=z at*;have m1:bits .and .u64 ((z:Int)+(c:Int)) 2251799813685247=(((z+c)%2251799813685248:Nat):Int):=by have:=th (z+c) pm;simpa using this
    have c':(z+c)/2251799813685248<=4096:=pm;clear C f8 n1 n2 s hg k;have a7:NB ((wr.setCell ⟨B,i,none⟩ (.int .u64 ((z:Int)+(c:Int)))).setCell ⟨B,i,none⟩ (.int .u64 (((z:Int)+(c:Int))%2251799813685248))) B (mh M (i+1)):=by simpa using HS.out.1
    have f9:y2.grownBy ((wr.setCell ⟨B,i,none⟩ (.int .u64 ((z:Int)+(c:Int)))).setCell ⟨B,i,none⟩ (.int .u64 (((z:Int)+(c:Int))%2251799813685248))) (some B):=by simpa using HS.out.2
    have h8:=Hq a7;have h9:=Hq f9;clear a7 f9 HS;go_wp2;go_roundw
    case rel=>exact ⟨i+1,(z+c)/2251799813685248,pm,by go_num,by congr 1,c',Hq h6.out.symm,h8,h9⟩
    case measure=>simp[intOf];omega
   obtain rfl:i=5:=pm;have e5:mh M 5=uA L:=by rw[d6.out];unfold mh;rw[cE (by have:=a'.out;omega),iP (by have:=a'.out;omega),ev]
   have b5:=s.out;rw[e5]at b5;obtain ⟨m,d,f,g,p,e6⟩:=cX c6.out.1;rw[e6]at b5;have b:=c6.out.2;have b8:=HV.out;rw[e6]at b b8;have k0:=b m pu;have k1:=b d pu;have k2:=b f pu;have k3:=b g pu;have k4:=b p pu;rw[<-M7 m d f g p k0 k1 k2 k3 k4]at b8;have q1:bits .or .u64 (m:Int) (IntKind.u64.wrap ((d:Int)*2251799813685248))=(Aw m d:Int):=wJ m d 0 pm pm 2251799813685248 0 pm;have q2:bits .or .u64 ((d:Int)/8192) (IntKind.u64.wrap ((f:Int)*274877906944))=(Ax d f:Int):=wJ (d/8192) f 0 pm pm 274877906944 0 pm;have q3:bits .or .u64 ((f:Int)/67108864) (IntKind.u64.wrap ((g:Int)*33554432))=(Az f g:Int):=wJ (f/67108864) g 0 pm pm 33554432 0 pm;have q4:bits .or .u64 ((g:Int)/549755813888) ((p:Int)*4096)=(AH g p:Int):=by have:=wJ (g/549755813888) p 0 pm pm 4096 0 pm;rw[dE _ pm]at this;exact this
   have l1:Aw m d<18446744073709551616:=ow (n:=64) pm pm;have l2:Ax d f<18446744073709551616:=ow (n:=64) pm pm;have l3:Az f g<18446744073709551616:=ow (n:=64) pm pm;have l4:AH g p<18446744073709551616:=ow (n:=64) pm pm;generalize Aw m d=t0 at*;generalize Ax d f=t1 at*;generalize Az f g=t2 at*;generalize AH g p=t3 at*;have c9:V=qE [t0,t1,t2,t3]:=by rw[b8];simp[qE]
   have hT:∀z∈[t0,t1,t2,t3],z<18446744073709551616:=by intro z hz;simp only[bp,dD,dH]at hz;omega
   obtain ⟨T,b7⟩:=kq ([t0,t1,t2,t3]);rw[<-b7]at c9 hT;have e':T.length=4:=(by rw[b7];rfl);have i0:=Hq b7;have d9:=Hq e';have h':=Hq hT;have i1:=Hq c9;have h3:=Hq (cJ d5.out hg.out (by have:=HB.out;omega));obtain ⟨⟨c0,c1,J,P,R⟩,_⟩:=b5.cX;clear b8 b e6 e5 b5 s hg f7 c9 hT b7 e' l1 l2 l3 l4 HV c6 d6 d' d5 HM d7 a' d3;rw[show((5:Nat):Int)=5from rfl];go_upto_region 19with(fail);clear c0 c1 J P R q1 q2 q3 q4;obtain ⟨ws,i6⟩:=kq wr;subst i6;go_loopw [7,9,81] (λvb v9 h wt=>∃j:Nat,j<=4/\h= .int .i64 j/\dq wt ws.heap.size vb (qE (T.take j))/\Below ws.heap.size ws wt) (λ_ _ h _=>4-(intOf h).toNat)
   case atStart=>exact ⟨0,pm,rfl,mO _ _,qS _ _⟩
   case round=>
    obtain ⟨j,hj,rfl,b',r⟩:=hrel;by_cases i5:j<4
    ·have b9:j<T.length:=by rw[d9.out];exact i5
     obtain ⟨t,ht⟩:=kq (T[j]);have ix:∀W:World,(Instr.index 282 (.agg #[.int .u64 t0, .int .u64 t1, .int .u64 t2, .int .u64 t3]) (.int .i64 j)).run prog W= .ok (.int .u64 t) W:=λW=>by have e:=i0.out;subst e;rw[ht];exact B9 W t0 t1 t2 t3 j b9
     have hn:=h'.out T[j] (iE b9);have g':=Hq (show qE (T.take (j+1))=qE (T.take j)++aP T[j] 8from by rw[fP b9,abh]);have g7:(qE (T.take j)).length+8<=140737488355328:=(by rw[abg,aJ];omega);rw[<-ht]at hn g';have f5:=r.size;have h5:=Hq g7;clear ht b9 g7;go_wp2_with fail;refine (pD _ ws.heap.size _ _ t 8 b' pm pm h5.out f5).mono ?_;rintro e w5 ⟨v',rfl,g9,e3⟩;rw[<-g'.out]at g9;replace r:=r.trans e3;clear b' e3 f5 ix;go_wp2;go_roundw
     case rel=>exact ⟨j+1,pm,by go_num,g9,r⟩
     case measure=>simp[intOf];omega
    obtain rfl:j=4:=pm;have i4:=jL b';rw[cE (by have:=d9.out;omega),<-i1.out]at i4;have h2:=Hq (ai h3.out (iU r));unfold S at*;clear b' r;go_wp2;go_ret;exact ⟨rfl,h2.out⟩
end
section
def ko:Ln->Nat
 |[]=>0
 |x::r=>x+18446744073709551616*ko r
def Rt:∀l:Ln,(∀x∈l,x<18446744073709551616)->ko l<18446744073709551616^l.length
 |[],_=>by simp[ko]
 |x::r,h=>by have c:=Rt r (λy b=>h y (by simp[b]));have:=h x pu;simp only[ko,eI,je];generalize 18446744073709551616^r.length=z at*;omega
def Rs:∀(l:Ln) (i:Nat) (h:i<l.length),(∀x∈l,x<18446744073709551616)->ko l/18446744073709551616^i%18446744073709551616=l[i]
 |x::r,0,_,h=>by have:=h x pu;simp only[ko,BY,zh,Bp];omega
 |x::r,i+1,b,h=>by have d:=Rs r i (by simpa using b) (λy c=>h y (by simp[c]));have:=h x pu;simp only[ko,Bq];rw[je,jH (18446744073709551616^i),<-qJ,show(x+18446744073709551616*ko r)/18446744073709551616=ko r from pm,d]
def mS(n i k:Nat):Nat:=n/18446744073709551616^i/2^k
def Xm (n i:Nat):mS n i 64=mS n (i+1) 0:=by unfold mS;rw[BY,zh,qJ,je 18446744073709551616]
def Xn (n:Nat):mS n 0 0=n:=by unfold mS;rw[BY,zh,zh]
def Xl (l:Ln)(h:∀x∈l,x<18446744073709551616):mS (ko l) l.length 0=0:=by unfold mS;rw[Nat.div_eq_of_lt (Rt l h),Nat.zero_div]
def Xk (l:Ln)(h:∀x∈l,x<18446744073709551616)(i k:Nat)(d:i<l.length)(f:k<64):mS (ko l) i k=2*mS (ko l) i (k+1)+l[i]/2^k%2:=by
 have b:=Rs l i d h;unfold mS;generalize ko l/18446744073709551616^i=m at*;rw[<-b,je,<-qJ];have c:m%18446744073709551616/2^k%2=m/2^k%2:=by
  have e:(18446744073709551616:Nat)=2^k*(2*2^(63-k)):=by rw[<-Nat.pow_succ',<-xu,show k+(63-k).succ=64from pm]
  rw[e,Nat.mod_mul_right_div_self,Nat.mod_mul_right_mod]
 rw[c];generalize m/2^k=q;omega
def pV(l L:Ln)(e:Nat):Prop:=gR L/\aU L%PP=aU l^e%PP
def pV.abU (h:pV l L e)(b:gR M)(c:aU M%PP=(aU L*aU L)%PP):pV l M (2*e):=by refine ⟨b,?_⟩;rw[c,tP,h.2,<-tP,<-xu,show e+e=2*e from pm]
def pV.more (h:pV l L e)(b:gR M)(c:aU M%PP=(aU L*aU l)%PP):pV l M (e+1):=by refine ⟨b,?_⟩;rw[c,tP,h.2,<-tP,<-je]
def eg(x y:Nat):Nat:=(x+y)%PP
def eP(x y:Nat):Nat:=(x+(PP-y%PP))%PP
def ee(x y:Nat):Nat:=(x*y)%PP
def DI(x2 b:Nat):Nat:=ee (ee (eg x2 b) (eg x2 b)) (ee (eP x2 b) (eP x2 b))
def rC(x2 b:Nat):Nat:=eP (ee (eg x2 b) (eg x2 b)) (ee (eP x2 b) (eP x2 b))
def Ik(x2 b:Nat):Nat:=ee (rC x2 b) (eg (ee (eg x2 b) (eg x2 b)) (ee 121665 (rC x2 b)))
def td(x2 b x3 z3:Nat):Nat:=ee (eP x3 z3) (eg x2 b)
def ta(x2 b x3 z3:Nat):Nat:=ee (eg x3 z3) (eP x2 b)
def wg(x2 b x3 z3:Nat):Nat:=ee (eg (td x2 b x3 z3) (ta x2 b x3 z3)) (eg (td x2 b x3 z3) (ta x2 b x3 z3))
def Ah(x x2 b x3 z3:Nat):Nat:=ee x (ee (eP (td x2 b x3 z3) (ta x2 b x3 z3)) (eP (td x2 b x3 z3) (ta x2 b x3 z3)))
structure jI where
 sw:Nat
 x2:Nat
 z2:Nat
 x3:Nat
 z3:Nat
def jI.rO(s:jI)(bit:Nat):jI:=if bit=s.sw then s else⟨bit,s.x3,s.z3,s.x2,s.z2⟩
def jI.step(s:jI)(x:Nat):jI:=⟨s.sw,DI s.x2 s.z2,Ik s.x2 s.z2,wg s.x2 s.z2 s.x3 s.z3,Ah x s.x2 s.z2 s.x3 s.z3⟩
def mo(k x:Nat):Nat->jI
 |0=>⟨0,1,0,x,1⟩
 |i+1=>((mo k x i).rO (k/2^(254-i)%2)).step x
def we(s:jI):Nat:=if s.sw=1then ee s.x3 (s.z3^(PP-2))else ee s.x2 (s.z2^(PP-2))
def DH(k x:Nat):Nat:=we (mo k x 255)
def abT (s:jI)(bit:Nat):(s.rO bit).sw=bit:=by unfold jI.rO;split<;>simp_all
def Zp (k x:Nat):∀i,(mo k x i).sw<=1
 |0=>by simp[mo]
 |i+1=>by simp only[mo,jI.step,abT];omega
end
section
open Go.RowKit
def Mf w:Calls prog 143 #[] w (Grown (N5 [1,0,0,0,0]) w):=by rw[ma];go_enter func143,ntmps143;go_wp2_with fail;refine bodyPost_ret (v:= .agg #[.int .u64 1, .int .u64 0, .int .u64 0, .int .u64 0, .int .u64 0]) (by simp[results,results143,go_sem]) rfl ?_;exact ⟨rfl,aF (ak w none) _⟩
def Ki(l:Ln)(n:Nat)(w:World)(e:Ending)(b:World):Prop:=∃L,e= .returned (N5 L)/\pV l L n/\w.grownBy b none
def VG w l (ok:gR l)(K:Nat)(t:TypeId) ws (hK:KB w K t ws)(hb:∀x∈ws,x<18446744073709551616)(hn:ws.length<=4):
 Calls prog 89 #[N5 l, .slice (some ⟨K,0,none⟩) ws.length ws.length] w (Ki l (ko ws) w):=by
 obtain ⟨B,hB⟩:=kq w.heap.size;obtain ⟨p,r,s,u,z,el⟩:=cX ok.length;obtain ⟨x,I⟩:=kq ((w.alloc (.cells #[.int .u64 p, .int .u64 r, .int .u64 s, .int .u64 u, .int .u64 z] 144)).alloc (.cells #[.int .u64 0, .int .u64 0, .int .u64 0, .int .u64 0, .int .u64 0] 144));have s1:(w.alloc (.cells #[.int .u64 p, .int .u64 r, .int .u64 s, .int .u64 u, .int .u64 z] 144)).heap.size=B+1:=by rw[hB];simp
 have R:NB x B [p,r,s,u,z]:=by rw[I,hB];exact cG (aO _ _)
 have U:NB x (B+1) [0,0,0,0,0]:=by rw[I,<-s1];exact aO _ _
 have bK:KB x K t ws:=by rw[I];exact cG (cG hK)
 have e0:w.grownBy x none:=by rw[I];exact aF (aF (ak w none) _) _
 have g9:K<B:=by rw[hB];exact ab.lt hK
 have hN:N5 l= .agg #[.int .u64 p, .int .u64 r, .int .u64 s, .int .u64 u, .int .u64 z]:=by rw[el];rfl
 rw[hN];have HA:=Hq R;have HR:=Hq U;have HK:=Hq bK;have HG:=Hq e0;have HB:=Hq hB;have HX:=Hq I;have f5:=Hq el;have g0:=Hq ok;have a':=Hq hb;clear R U bK e0 hB I el ok hb hN s1 hK;go_enter func89,ntmps89;go_upto_region 1with(fail);rw[<-HB.out,<-HX.out];go_wp2_with fail;refine ax (Mf _) λx1 d=>?_;rw[ma];obtain ⟨O,hO⟩:=kq x1.heap.size;obtain ⟨y,C⟩:=kq (x1.alloc (.cells #[.int .u64 1, .int .u64 0, .int .u64 0, .int .u64 0, .int .u64 0] 144));have bO:NB y O [1,0,0,0,0]:=by rw[C,hO];exact aO _ _
 have b1:NB y B [p,r,s,u,z]:=by rw[C];exact cG (ab.kept HA.out d nofun)
 have b2:NB y (B+1) [0,0,0,0,0]:=by rw[C];exact cG (ab.kept HR.out d nofun)
 have P:KB y K t ws:=by rw[C];exact cG (ab.kept HK.out d nofun)
 have e1:w.grownBy y none:=by rw[C];exact aF (ai HG.out d) _
 have g8:B+1<O:=by rw[hO];exact ab.lt (ab.kept HR.out d nofun)
 have c7:=Hq bO;have e6:=Hq b1;have e7:=Hq b2;have e8:=Hq P;have f8:=Hq e1;have HO:=Hq hO;have HY:=Hq C;clear bO b1 b2 P e1 hO C d HA HR HK HG HX;go_upto_region 3with(fail);rw[<-HO.out,<-HY.out];have d9:pV l [1,0,0,0,0] (mS (ko ws) ws.length 0):=by rw[Xl ws a'.out];exact ⟨⟨1,[0,0,0,0],rfl,rfl,pm,pu⟩,by simp[aU]⟩
 have d5:=Hq d9;have f6:=Hq (Xn (ko ws));generalize hW:ko ws=W at*;have g2:=Hq hW;clear d9 hW;go_loopw [6,7] (λv6 v7 wr=>∃(i:Nat) (L:Ln),i<=ws.length/\v6= .int .i64 ((i:Int)-1)/\Hid (pV l L (mS W i 0))/\Hid (NB wr O L)/\Hid (y.grownBy wr (some O))) (λv6 _ _=>(intOf v6+1).toNat)
 case atStart=>exact ⟨ws.length,_,pm,rfl,d5,c7,Hq (ak _ _)⟩
 case round=>
  clear d5 c7;obtain ⟨i,L,hi,rfl,c,h,f⟩:=hrel;by_cases g6:i=0
  ·subst g6;rw[show((0:Nat):Int)-1= -1from rfl];obtain ⟨r0,r1,r2,r3,r4,eL⟩:=cX c.out.1.length;have bL:=h.out;rw[eL]at bL;obtain ⟨⟨c0,c1,c2,c3,c4⟩,_⟩:=bL.cX;have U:NB wr (B+1) [0,0,0,0,0]:=ab.kept e7.out f.out pp;obtain ⟨⟨z0,z1,z2,z3,z4⟩,f0,f1,f2,f3,f4⟩:=U.cX;have g5:=Hq (vX (B:=B+1) (cJ f8.out f.out (by have:=HB.out;omega)) (by have:=HB.out;omega) (.int .u64 r0) (.int .u64 r1) (.int .u64 r2) (.int .u64 r3) (.int .u64 r4));have f9:=Hq eL;clear eL bL U h f;go_wp2_with fail;refine bodyPost_ret (v:= .agg #[.int .u64 r0, .int .u64 r1, .int .u64 r2, .int .u64 r3, .int .u64 r4]) (by simp[results,results89,go_sem,z0,z1,z2,z3,z4]) rfl ?_;exact ⟨L,by have e:=f9.out;rw[e];rfl,by have e:=c.out;rw[f6.out]at e;exact e,g5.out⟩
  obtain ⟨j,rfl⟩:∃j,i=j+1:=⟨i-1,pm⟩;have ej:((j+1:Nat):Int)-1=(j:Int):=pm
  rw[ej];have jn:(0:Int)<=(j:Int):=pm
  have hd:decide ((0:Int)<=(j:Int))=true:=pu
  go_wp2_with fail;go_loopw [7] (λv7 wr=>∃(k:Nat) (M:Ln),k<=64/\v7= .int .i64 ((k:Int)-1)/\Hid (pV l M (mS W j k))/\Hid (NB wr O M)/\Hid (y.grownBy wr (some O))) (λv7 _=>(intOf v7+1).toNat)
  case atStart=>exact ⟨64,L,pm,rfl,Hq (by rw[Xm];exact c.out),h,f⟩
  case round=>
   clear c h f;obtain ⟨k,M,hk,rfl,c,h,f⟩:=hrel;by_cases g7:k=0
   ·subst g7;rw[show((0:Nat):Int)-1= -1from rfl];go_wp2;go_roundw
    case rel=>exact ⟨j,M,pm,rfl,c,h,f⟩
    case measure=>simp[intOf]
   obtain ⟨m,rfl⟩:∃m,k=m+1:=⟨k-1,pm⟩;have em:((m+1:Nat):Int)-1=(m:Int):=pm;rw[em];have mn:(0:Int)<=(m:Int):=pm;have mx:(m:Int)<=63:=pm;have h2:decide ((0:Int)<=(m:Int))=true:=pu;obtain ⟨m0,m1,m2,m3,m4,eM⟩:=cX c.out.1.length;have bM:=h.out;rw[eM]at bM;obtain ⟨⟨c0,c1,c2,c3,c4⟩,_⟩:=bM.cX;have A1:∀V:World,Calls prog 87 #[N5 M,N5 M] V (zk (aU M*aU M) V):=λV=>CX V M M c.out.1 c.out.1;rw[eM,ma,<-eM]at A1;have c6:=Hq bM;have c9:=f;clear bM eM h f;go_wp2_with fail;refine (A1 _).mono ?_;rintro e w2 ⟨g,rfl,a8,e4,d⟩;obtain ⟨p0,p1,p2,p3,p4,a6⟩:=cX a8.length;have d7:N5 g= .agg #[.int .u64 p0, .int .u64 p1, .int .u64 p2, .int .u64 p3, .int .u64 p4]:=(by rw[a6];rfl);rw[d7];have b0:NB w2 O [m0,m1,m2,m3,m4]:=ab.kept c6.out d nofun
   obtain ⟨y2,a7⟩:=kq (((((w2.setCell ⟨O,0,none⟩ (.int .u64 p0)).setCell ⟨O,1,none⟩ (.int .u64 p1)).setCell ⟨O,2,none⟩ (.int .u64 p2)).setCell ⟨O,3,none⟩ (.int .u64 p3)).setCell ⟨O,4,none⟩ (.int .u64 p4));have P:NB y2 O g:=by rw[a7,a6];exact b0.Jj p0 p1 p2 p3 p4
   have g3:y.grownBy y2 (some O):=by rw[a7];exact aw (aw (aw (aw (aw (ai c9.out (eo d)) _ _) _ _) _ _) _ _) _ _
   have hj:j<ws.length:=pm;have bk:KB y2 K t ws:=ab.kept e8.out g3 pp;have ck:=bk.cell j hj;have h4:=a'.out ws[j] (iE hj);obtain ⟨b,b7⟩:=kq (ws[j]/2^m%2);have b8:=Xk ws a'.out j m hj pm;rw[g2.out,<-b7]at b8;have d':pV l g (2*mS W j (m+1)):=c.out.abU a8 e4;generalize ws[j]=J at*;have hA:bits .and .u64 ((J:Int)/2^m) 1=(b:Int):=by have e:((J:Int)/2^m)=((J/2^m:Nat):Int):=pu;have h3:J/2^m<=J:=qQ _ _;have:=rY (J/2^m) 1 pm pm;rw[e];rw[show((1:Nat):Int)=1from rfl]at this;rw[this,EZ,b7]
   have j1:(j:Int)<(ws.length:Int):=pm;have g':b<=1:=pm;have d6:=Hq d';have c5:=Hq P;have a9:=Hq g3;have c8:=Hq b8;have c':=Hq a6;have f':=Hq a8;have g4:=Hq a7;obtain ⟨⟨z0,z1,z2,z3,z4⟩,f0,f1,f2,f3,f4⟩:=b0.cX;clear a7 P g3 bk d' b8 b7 d e4 d7 a6 a8 b0 c0 c1 c2 c3 c4 A1 c c6 c9;go_upto_region 9with(fail);rw[<-g4.out];clear z0 z1 z2 z3 z4 f0 f1 f2 f3 f4;rcases (show b=0\/b=1 by omega)with h0|h1
   ·subst h0;go_wp2;go_roundw
    case rel=>exact ⟨m,g,pm,rfl,Hq (by have e:=c8.out;rw[e];exact d6.out),c5,a9⟩
    case measure=>simp[intOf]
   subst h1;have a5:=c5.out;rw[c'.out]at a5;obtain ⟨⟨c0,c1,c2,c3,c4⟩,_⟩:=a5.cX;have R:NB y2 B [p,r,s,u,z]:=ab.kept e6.out a9.out pp;obtain ⟨⟨d0,d1,d2,d3,d4⟩,_⟩:=R.cX;have A2:∀V:World,Calls prog 87 #[N5 g,N5 l] V (zk (aU g*aU l) V):=λV=>CX V g l f'.out g0.out;have e2:N5 g= .agg #[.int .u64 p0, .int .u64 p1, .int .u64 p2, .int .u64 p3, .int .u64 p4]:=by have e:=c'.out;rw[e];rfl
   have e3:N5 l= .agg #[.int .u64 p, .int .u64 r, .int .u64 s, .int .u64 u, .int .u64 z]:=by have e:=f5.out;rw[e];rfl
   rw[e2,e3]at A2;have e':=Hq a5;clear a5 R e2 e3;go_wp2_with fail;refine (A2 _).mono ?_;rintro e w3 ⟨M2,rfl,b',e5,b9⟩;obtain ⟨q0,q1,q2,q3,q4,b6⟩:=cX b'.length;have d8:N5 M2= .agg #[.int .u64 q0, .int .u64 q1, .int .u64 q2, .int .u64 q3, .int .u64 q4]:=(by rw[b6];rfl);rw[d8];have b5:NB w3 O [p0,p1,p2,p3,p4]:=ab.kept e'.out b9 nofun
   have b4:NB (((((w3.setCell ⟨O,0,none⟩ (.int .u64 q0)).setCell ⟨O,1,none⟩ (.int .u64 q1)).setCell ⟨O,2,none⟩ (.int .u64 q2)).setCell ⟨O,3,none⟩ (.int .u64 q3)).setCell ⟨O,4,none⟩ (.int .u64 q4)) O M2:=by rw[b6];exact b5.Jj q0 q1 q2 q3 q4
   have e9:=Hq b4;have f7:=Hq (aw (aw (aw (aw (aw (ai a9.out (eo b9)) 0 (.int .u64 q0)) 1 (.int .u64 q1)) 2 (.int .u64 q2)) 3 (.int .u64 q3)) 4 (.int .u64 q4));have g1:=Hq (d6.out.more b' e5);obtain ⟨⟨z0,z1,z2,z3,z4⟩,f0,f1,f2,f3,f4⟩:=b5.cX;clear c0 c1 c2 c3 c4 d0 d1 d2 d3 d4 b4 b5 d8 b6 b9 e5 b' A2;go_wp2;go_roundw
   case rel=>exact ⟨m,M2,pm,rfl,Hq (by have e:=c8.out;rw[e];exact g1.out),e9,f7⟩
   case measure=>simp[intOf]
def abY (x y:Nat):xD 86 x y (eg x y):=by intro w p q h j;obtain ⟨a,rfl,k,c⟩:=h;obtain ⟨b,rfl,m,d⟩:=j;refine (VF w a b k m).mono ?_;rintro e s ⟨l,rfl,r,g,f⟩;exact ⟨_,rfl,⟨l,rfl,r,by rw[g];unfold eg;rw[Nat.mod_mod,tQ,c,d,<-tQ]⟩,f⟩
def aaT {z a b:Nat}(d:a%PP=x%PP)(f:b%PP=y%PP)(h:(z+b)%PP=a%PP):z%PP=eP x y%PP:=by
 unfold eP;rw[Nat.mod_mod];have g:0<PP:=Fp;generalize PP=p at*;have c:(z+y)%p=x%p:=by rw[tQ,<-f,<-tQ,h,d]
 rw[tQ x,<-c,<-tQ];have j:=dQ y g;have e:z+y+(p-y%p)=z+p*(y/p+1):=by have:=Nat.div_add_mod y p;rw[Nat.mul_add,xv];omega
 rw[e,wU]
def abW (x y:Nat):xD 163 x y (eP x y):=by intro w p q h j;obtain ⟨a,rfl,k,c⟩:=h;obtain ⟨b,rfl,m,d⟩:=j;refine (VB w a b k m).mono ?_;rintro e s ⟨l,rfl,r,g,f⟩;exact ⟨_,rfl,⟨l,rfl,r,aaT c d g⟩,f⟩
def abZ (x y:Nat):xD 87 x y (ee x y):=by intro w p q h j;obtain ⟨a,rfl,k,c⟩:=h;obtain ⟨b,rfl,m,d⟩:=j;refine (CX w a b k m).mono ?_;rintro e s ⟨l,rfl,r,g,f⟩;exact ⟨_,rfl,⟨l,rfl,r,by rw[g];unfold ee;rw[Nat.mod_mod,tP,c,d,<-tP]⟩,f⟩
def E4:Fl 143 1:=by intro w;refine ax (Mf w) λc b=>?_;exact ⟨_,rfl,⟨[1,0,0,0,0],rfl,⟨1,[0,0,0,0],rfl,rfl,pm,pu⟩,wl⟩,b⟩
def two(f x y:Nat):Option Nat:=if f=86then some (eg x y)else if f=163then some (eP x y)else if f=87then some (ee x y)else none
def abV {f:Nat}(h:two f x y=some v):xD f x y v/\∀(x y:Value) (w:World),(callFunc f #[x,y]).run prog w= .ok (.enter f #[x,y]) w:=by
 unfold two at h;split at h
 ·rename_i e;subst e;cases h;exact ⟨abY x y,λ_ _ _=>rfl⟩
 split at h
 ·rename_i e;subst e;cases h;exact ⟨abW x y,λ_ _ _=>rfl⟩
 split at h
 ·rename_i e;subst e;cases h;exact ⟨abZ x y,λ_ _ _=>rfl⟩
 cases h
def rm:List (Nat×Nat×Nat)->Nat->Option (Nat×Nat)
 |[],_=>none
 |(s,x)::r,p=>if s=p then some x else rm r p
def Dp:∀{E:List (Nat×Nat×Nat)} {p:Nat} {x:Nat×Nat},rm E p=some x->(p,x)∈E
 |[],_,_,h=>by cases h
 |(s,y)::r,p,x,h=>by
  unfold rm at h;split at h
  ·rename_i e;subst e;cases h;exact BD
  exact wY _ (Dp h)
def kU{α:Type}(f:Kd->Option α):List Kd->Option (Nat×α)
 |[]=>none
 |k::r=>match f k with
  |some a=>some (0,a)
  |none=>(kU f r).map λx=>(x.1+1,x.2)
def at_spec {α:Type}{f:Kd->Option α}:∀{l:List Kd} {n:Nat} {a:α},kU f l=some (n,a)->∃k,l[n]?=some k/\f k=some a
 |[],_,_,h=>by cases h
 |k::r,n,a,h=>by
  unfold kU at h;split at h
  ·rename_i b e;cases h;exact ⟨k,rfl,e⟩
  cases e:kU f r with
  |none=>rw[e]at h;cases h
  |some x=>rw[e]at h;cases h;exact at_spec (l:=r) e
def at_none {α:Type}{f:Kd->Option α}:∀{l:List Kd} {n:Nat} {k:Kd},kU f l=none->l[n]?=some k->f k=none
 |[],_,_,_,h=>by cases h
 |k::r,n,c,h,b=>by
  unfold kU at h;split at h
  ·cases h
  rename_i e;cases n with
  |zero=>cases b;exact e
  |succ n=>exact at_none (l:=r) (Option.map_eq_none_iff.1 h) b
def isVal(q:Nat):Kd->Option Nat
 | .val d v=>if d=q then some v else none
 |_=>none
def If(q:Nat):Kd->Option Unit
 | .iv d=>if d=q then some ()else none
 |_=>none
def sZ(q:Nat):Kd->Option Nat
 | .aN d _ _ v=>if d=q then some v else none
 |_=>none
def Ze {k:Kd}(h:isVal q k=some v):k= .val q v:=by cases k<;>simp[isVal]at h⊢<;>exact h
def Zb {k:Kd}(h:If q k=some ()):k= .iv q:=by cases k<;>simp[If]at h⊢<;>exact h
def Zc {k:Kd}(h:sZ q k=some v):∃B u,k= .aN q B u v:=by cases k<;>simp[sZ]at h⊢<;>exact h
def wt(o:Oper)(n:Nat):Bool:=o.after.toList.any λe=>Region.binds .any e&&e.on==n
def wR (h:wt o n=true):waits o n=true:=by unfold wt at h;unfold waits;rwa[Array.any_toList]at h
def ke(b:List Oper):Ln:=b.filterMap (·.dst)
def Oz(b:List Oper)(i p:Nat):Bool:= !(ke b).contains p&&b.all λo=>match o.op with
 | .store _ (.tmp s) _=> !(s==p)||wt o i
 |_=>true
def CG(pre:List Kd)(o:Oper)(c:Call):Option Nat:=
 match c.callee,c.args.toList with
 | .value (.func f),[]=>if f=143then some 1 else none
 | .value (.func f),[.tmp a, .tmp b]=>
  match kU (isVal a) pre,kU (isVal b) pre with
  |some (d,x),some (g,y)=>if wt o d=true/\wt o g=true then two f x y else none
  |_,_=>none
 |_,_=>none
def Jv(E:List (Nat×Nat×Nat))(b:List Oper)(pre:List Kd)(o:Oper)(p q:Nat):Option Kd:=
 match kU (isVal q) pre with
 |some (n,v)=>if wt o n=true then
  match kU (If p) pre with
  |some (m,_)=>if wt o m=true then some (.gZ m p v)else none
  |none=>if(ke b).contains p=false/\kU (sZ p) pre=none then(rm E p).map λx=> .aN p x.1 x.2 v else none
  else none
 |none=>none
def yh(E:List (Nat×Nat×Nat))(b:List Oper)(pre:List Kd)(i:Nat)(o:Oper):Option Kd:=
 match o.op,o.dst with
 | .load T (.tmp p),some d=>if T=144/\Oz b i p=true then(rm E p).map λx=> .val d x.2 else none
 | .alloc T,some d=>if T=144then some (.iv d)else none
 | .build T f,some d=>if T=144/\f.size=0then some (.val d 0)else none
 | .call c,some d=>(CG pre o c).map (.val d)
 | .store T (.tmp p) (.tmp q),none=>if T=144then Jv E b pre o p q else none
 |_,_=>none
def kinds(E:List (Nat×Nat×Nat))(b:List Oper):List Kd->List Oper->Option (List Kd)
 |pre,[]=>some pre
 |pre,o::r=>match yh E b pre pre.length o with
  |some k=>kinds E b (pre++[k]) r
  |none=>none
def Oh {E:List (Nat×Nat×Nat)}{m:List Oper}:∀{r:List Oper} {pre ks:List Kd},kinds E m pre r=some ks->ks.length=pre.length+r.length/\ks.take pre.length=pre/\
 ∀(j:Nat) (o:Oper),r[j]?=some o->∃k,ks[pre.length+j]?=some k/\yh E m (ks.take (pre.length+j)) (pre.length+j) o=some k
 |[],pre,ks,h=>by cases h;exact ⟨rfl,pu,λj o h=>by simp at h⟩
 |o::r,pre,ks,h=>by
  unfold kinds at h;split at h
  ·rename_i k u;obtain ⟨p,b,c⟩:=Oh (r:=r) h;simp only[aK,eI,yY,ef]at p b c;have z:pre.length<ks.length:=pm;have d:ks.take pre.length=pre:=by have:=iQ (List.take pre.length) b;rwa[ku,iF pm,List.take_left' rfl]at this
   have s:ks[pre.length]?=some k:=by have:=iQ (λl:List Kd=>l[pre.length]?) b;simpa[lN]using this
   refine ⟨pp,d,λj g f=>?_⟩;cases j with
   |zero=>
    obtain rfl:o=g:=by simpa using f
    exact ⟨k,s,by rw[jY,d];exact u⟩
   |succ j=>have:=c j g (by simpa using f);rwa[show pre.length+1+j=pre.length+(j+1)from pm]at this
  cases h
structure Env(wb w:World)(A a:Act)(W:Ln)(E:List (Nat×Nat×Nat)):Prop where
 base:wb.grownBy w none
 size:a.tmps.size=A.tmps.size
 defs:a.defers=A.defers
 same:∀s,s∉W->a.tmps[s]?=A.tmps[s]?
 one:∀e∈E,∀e'∈E,e.2.1=e'.2.1->e=e'
 all:∀e∈E,a.tmps.getD e.1 undef=ptrTo e.2.1/\wb.heap.size<=e.2.1/\NV w e.2.1 e.2.2
def Bb(ks:List Kd)(e:Nat×Nat×Nat):Nat×Nat×Nat:=match kU (sZ e.1) ks with
 |some (_,v)=>(e.1,e.2.1,v)
 |none=>e
def At(g:Nat->Nat):List Kd->List (Nat×Nat×Nat)
 |[]=>[]
 | .gZ _ p v::r=>(p,g p,v)::At g r
 |_::r=>At g r
def yl {g:Nat->Nat}{e:Nat×Nat×Nat}:∀{ks:List Kd},e∈At g ks->∃(n m p v:Nat),ks[n]?=some (.gZ m p v)/\e=(p,g p,v)
 |[],h=>by cases h
 |k::r,h=>by
  have b:e∈At g r->∃(n m p v:Nat),(k::r)[n]?=some (.gZ m p v)/\e=(p,g p,v):=λh=>by obtain ⟨n,m,p,v,c,d⟩:=yl (ks:=r) h;exact ⟨n+1,m,p,v,by simpa using c,d⟩
  cases k with
  |gZ m p v=>
   rcases bp.1 h with h|h
   ·exact ⟨0,m,p,v,rfl,h⟩
   exact b h
  |_=>exact b h
def B8(E:List (Nat×Nat×Nat))(ks:List Kd)(g:Nat->Nat):List (Nat×Nat×Nat):=E.map (Bb ks)++At g ks
def CD:Value->Nat
 | .pointer (some a)=>a.block
 |_=>0
def yK (ks:List Kd)(e:Nat×Nat×Nat):(Bb ks e).1=e.1/\(Bb ks e).2.1=e.2.1:=by unfold Bb;split<;>exact ⟨rfl,rfl⟩
def G' {E:List (Nat×Nat×Nat)}{j:List Oper}{pre:List Kd}{p u:Nat}(h:yh E j pre i o=some (.aN p B u v)):
 ∃q n,o.op= .store 144 (.tmp p) (.tmp q)/\o.dst=none/\kU (isVal q) pre=some (n,v)/\waits o n=true/\p∉ke j/\kU (sZ p) pre=none/\rm E p=some (B,u):=by
 unfold yh at h;split at h
 ·rename_i T b d c f;split at h
  ·cases hf:rm E b<;>rw[hf]at h<;>cases h
  cases h
 ·split at h<;>cases h
 ·split at h<;>cases h
 ·cases hf:CG pre o ‹Call›<;>rw[hf]at h<;>cases h
 ·rename_i T b s c f;split at h
  ·rename_i k;subst k;unfold Jv at h;split at h
   ·rename_i n z m;split at h
    ·rename_i r;split at h
     ·split at h<;>cases h
     split at h
     ·rename_i g;cases hf:rm E b with
      |none=>rw[hf]at h;cases h
      |some x=>rw[hf]at h;cases h;exact ⟨s,n,c,f,m,wR r,λhm=>by have:=g.1;rw[ER,wV]at this;exact this hm,g.2,hf⟩
     cases h
    cases h
   cases h
  cases h
 cases h
def AZ {ks:List Kd}(h:kU (isVal q) (ks.take i)=some (n,v)):ks[n]?=some (.val q v):=by
 obtain ⟨k,b,c⟩:=at_spec h;rw[Ze c]at b;rw[lN]at b;split at b
 ·exact b
 cases b
def mZ {l:List Oper}{b:Bool}{Q:Exit->Act->World->Prop}{id:Nat}{W0}{E:List (Nat×Nat×Nat)}(r:Env wb w A a W0 E){ks:List Kd}(hW:ke l=W)(b5:kinds E l [] l=some ks)
 (hA:rE (ke l) A.tmps.size ks=true) (he:qg .any l.toArray=true) (hg:l.all (λo=>o.guard.isNone)=true) (b4:E.all (λe=> !(ke l).contains e.1)=true)
 (b3:∀(vs:Lv) (w':World) (g:Nat->Nat),vs.length=W.length->Env wb w' A (fh a W vs) (W0++W) (B8 E ks g)->Q .normal (fh a W vs) w'):(Code.region id l.toArray b).wp prog Q a w:=by
 subst hW;obtain ⟨a4, -,a9⟩:=Oh b5;simp only[yY,ef]at a4 a9;have a':∀(i:Nat) (k:Kd),ks[i]?=some k->∃o,l[i]?=some o/\yh E l (ks.take i) i o=some k:=λi k h=>by
  have hi:i<l.length:=by rw[<-a4];exact (mD.1 h).1
  obtain ⟨k',z,I⟩:=a9 i l[i] (by simp[hi]);rw[h]at z;cases z;exact ⟨l[i],by simp[hi],I⟩
 have a0:∀(n p B u v:Nat),ks[n]?=some (.aN p B u v)->∃o q m,l[n]?=some o/\o.op= .store 144 (.tmp p) (.tmp q)/\o.dst=none/\ks[m]?=some (.val q v)/\waits o m=true/\p∉ke l/\kU (sZ p) (ks.take n)=none/\(p,B,u)∈E:=λn p B u v h=>by obtain ⟨o,z,I⟩:=a' n _ h;obtain ⟨q,m,J,P,e3,e4,e5,e6,e7⟩:=G' I;exact ⟨o,q,m,z,J,P,AZ e3,e4,e5,e6,Dp e7⟩
 obtain ⟨D,hD⟩:=kq ((ks.filterMap G9).map (·.2.1));have b1:∀B,B∈D->∃(n p u v:Nat),ks[n]?=some (.aN p B u v):=λB h=>by
  rw[hD]at h;obtain ⟨x,z,rfl⟩:=eS.1 h;obtain ⟨k,I,h3⟩:=List.mem_filterMap.1 z;obtain ⟨n,h4⟩:=nw I;cases k with
  |aN p B u v=>cases h3;exact ⟨n,p,u,v,h4⟩
  |_=>cases h3
 have b9:∀(n p B u v:Nat),ks[n]?=some (.aN p B u v)->B∈D:=λn p B u v h=>by rw[hD];exact eS.2 ⟨(p,B,u,v),List.mem_filterMap.2 ⟨_,dc h,rfl⟩,rfl⟩
 have ol:sm wb w a (ke l) D ks:=⟨r.base.size,λn p B u v h=>by
  obtain ⟨o,q,m, -, -, -, -, -,h5, -,h6⟩:=a0 n p B u v h;obtain ⟨f1,f2,f3⟩:=r.all _ h6;exact ⟨b9 n p B u v h,f3.lt,f2,h5,f1⟩,
  λi j p B u v p' B' u' v' z I b6 e=>by
   subst e;obtain ⟨_,_,_, -, -, -, -, -, -,n1,m1⟩:=a0 i p B u v z;obtain ⟨_,_,_, -, -, -, -, -, -,n2,m2⟩:=a0 j p' B u' v' I;have e:=r.one _ m1 _ m2 rfl;cases e;rcases Nat.lt_or_gt_of_ne b6 with h|h
   ·have:=at_none (n:=i) n2 (by rw[lN,av h];exact z);simp[sZ]at this
   have:=at_none (n:=j) n1 (by rw[lN,av h];exact I);simp[sZ]at this⟩
 have b0:∀(i:Nat) (o:Oper) (k:Kd),l.toArray[i]?=some o->ks[i]?=some k->Fits prog 144 l.toArray Q wb w a (ke l) D ks i o k:=λi o k ho hk=>by
  have ho:l[i]?=some o:=by simpa using ho
  obtain ⟨o',z,h⟩:=a' i k hk;rw[ho]at z;cases z;have h0:=h;unfold yh at h;split at h
  ·rename_i T p d J P;split at h
   ·rename_i hc;obtain ⟨rfl,hc⟩:=hc;simp only[Oz,fY,Bool.not_eq_true',ER,wV,nA]at hc;cases hf:rm E p with
    |none=>rw[hf]at h;cases h
    |some x=>
     rw[hf]at h;cases h;obtain ⟨f1,f2,f3⟩:=r.all _ (Dp hf);by_cases hB:x.1∈D
     ·obtain ⟨n,p',u,v,hn⟩:=b1 _ hB;obtain ⟨oj,q,m,R,g2, -, -, -, -, -,g6⟩:=a0 n p' x.1 u v hn;have e:=r.one _ g6 _ (Dp hf) rfl;have ep:p'=p:=iQ Prod.fst e;have eu:u=x.2:=iQ (λy:Nat×Nat×Nat=>y.2.2) e;subst ep eu;have:=hc.2 oj (dc R);rw[g2]at this;exact XE p' x.1 n p' v oj hn (by simpa using R) (wR (by simpa using this)) J P hc.1 f1
     exact XD p x.1 f3 J P hc.1 f1 hB
   cases h
  ·rename_i T d J P;split at h
   ·rename_i e;subst e;cases h;exact ⟨J,P⟩
   cases h
  ·rename_i T ps d J P;split at h
   ·rename_i e;obtain ⟨rfl,e⟩:=e;cases h;exact XC (by rw[J,Array.eq_empty_of_size_eq_zero e]) P
   cases h
  ·rename_i c d J P;obtain ⟨b2,a1,a6⟩:=c;cases C:CG (ks.take i) o ⟨b2,a1,a6⟩with
   |none=>rw[C]at h;cases h
   |some v=>
    rw[C]at h;cases h;unfold CG at C;simp only at C;split at C
    ·rename_i f a5;split at C
     ·rename_i e;subst e;cases C;obtain rfl:a1=#[]:=by cases a1;cases a5;rfl
      exact XF _ E4 (λ_=>qr) a6 J P
     cases C
    ·rename_i f s t a5;obtain rfl:a1=#[.tmp s, .tmp t]:=by cases a1;cases a5;rfl
     split at C
     ·rename_i n1 x n2 y R g2;split at C
      ·rename_i hw;obtain ⟨t1,t2⟩:=abV C;exact XG f s t n1 n2 x y t1 t2 a6 J P (AZ R) (AZ g2) (wR hw.1) (wR hw.2)
      cases C
     cases C
    cases C
  ·rename_i T p q J P;split at h
   ·rename_i e;subst e;unfold Jv at h;split at h
    ·rename_i n v C;split at h
     ·rename_i hw;split at h
      ·rename_i m x hm;split at h
       ·rename_i b8;cases h;obtain ⟨k',U,k2⟩:=at_spec hm;rw[Zb k2,lN]at U;split at U
        ·exact ⟨q,n,J,P,AZ C,U,wR hw,wR b8⟩
        cases U
       cases h
      split at h
      ·cases hf:rm E p with
       |none=>rw[hf]at h;cases h
       |some x=>rw[hf]at h;cases h;exact ⟨q,n,J,P,AZ C,wR hw⟩
      cases h
     cases h
    cases h
   cases h
  cases h
 have a7:∀(vs:Lv) (w':World),vs.length=(ke l).length->qU wb w a (ke l) D l.toArray ks (fh a (ke l) vs) w'->Q .normal (fh a (ke l) vs) w':=λvs w' C hd=>by
  have a2:∀(n m p v:Nat),ks[n]?=some (.gZ m p v)->ks[m]?=some (.iv p)/\∃k,(fh a (ke l) vs).tmps.getD p undef=ptrTo k/\w.heap.size<=k/\NV w' k v:=λn m p v h=>(hd.gZ n m p v h rfl).2;have b7:∀e0∈E,e0.1∉ke l:=λe0 h=>by have:=nA.1 b4 e0 h;simpa using this
  refine b3 vs w' (λp=>CD ((fh a (ke l) vs).tmps.getD p undef)) C ⟨hd.base,hd.size.trans r.size,hd.defs.trans r.defs,λs hs=>(hd.same s λh=>hs (nu _ h)).trans (r.same s λh=>hs (jF _ h)),?_,?_⟩
  ·intro e z e' I hb;have lo:∀e0∈E,e0.2.1<w.heap.size:=λe0 h=>(r.all e0 h).2.2.lt;rcases bG.1 z with z|z<;>rcases bG.1 I with I|I
   ·obtain ⟨x,hx,rfl⟩:=eS.1 z;obtain ⟨y,hy,rfl⟩:=eS.1 I;rw[(yK ks x).2,(yK ks y).2]at hb;rw[r.one x hx y hy hb]
   ·obtain ⟨x,hx,rfl⟩:=eS.1 z;obtain ⟨n,m,p,v,R,rfl⟩:=yl I;obtain ⟨-,k,g2,g3, -⟩:=a2 n m p v R;have:=lo x hx;rw[(yK ks x).2]at hb;simp only[g2,ptrTo,CD]at hb;omega
   ·obtain ⟨x,hx,rfl⟩:=eS.1 I;obtain ⟨n,m,p,v,R,rfl⟩:=yl z;obtain ⟨-,k,g2,g3, -⟩:=a2 n m p v R;have:=lo x hx;rw[(yK ks x).2]at hb;simp only[g2,ptrTo,CD]at hb;omega
   obtain ⟨n,m,p,v,R,rfl⟩:=yl z;obtain ⟨n',m',p',v',a3,rfl⟩:=yl I;obtain ⟨j,k,g2, -, -⟩:=a2 n m p v R;obtain ⟨j',k',a8, -, -⟩:=a2 n' m' p' v' a3;simp only[g2,a8,ptrTo,CD]at hb;subst hb;by_cases hn:n=n'
   ·subst hn;rw[R]at a3;cases a3;rfl
   have hm:=(yn hA R a3).2 m p v m' p' v' rfl rfl hn;exact absurd (g2.trans a8.symm) (hd.apart m m' p p' j j' hm rfl rfl)
  intro e h;rcases bG.1 h with h|h
  ·obtain ⟨x,hx,rfl⟩:=eS.1 h;obtain ⟨f1,f2,f3⟩:=r.all x hx;rw[(yK ks x).1,(yK ks x).2];refine ⟨?_,f2,?_⟩
   ·rw[<-f1];exact Hi (hd.same _ (b7 x hx))
   unfold Bb;split
   ·rename_i n v hn;obtain ⟨k,U,k2⟩:=at_spec hn;obtain ⟨B,u,rfl⟩:=Zc k2;obtain ⟨_,_,_, -, -, -, -, -, -, -,hm⟩:=a0 n x.1 B u v U;have f4:=(r.all _ hm).1;rw[f1]at f4;have:x.2.1=B:=by unfold ptrTo at f4;injection f4 with f4;injection f4 with f4;injection f4
    show NV w' x.2.1 v;rw[this];exact hd.was n x.1 B u v U
   rename_i hn;refine hd.qq f3 λhB=>?_;obtain ⟨n,p,u,v,U⟩:=b1 _ hB;obtain ⟨_,_,_, -, -, -, -, -, -, -,hm⟩:=a0 n p _ u v U;have ep:p=x.1:=iQ Prod.fst (r.one _ hm _ hx rfl);subst ep;have:=at_none hn U;simp[sZ]at this
  obtain ⟨n,m,p,v,R,rfl⟩:=yl h;obtain ⟨-,k,g2,g3,g4⟩:=a2 n m p v R;simp only[g2];exact ⟨rfl,bJ r.base.size g3,g4⟩
 cases b
 ·exact M' (ke l) D ks (by simpa using a4) (by rw[r.size];exact hA) ol he (by simpa using hg) r.base (λi p B u v h=>by obtain ⟨_,_,_, -, -, -, -, -, -, -,hm⟩:=a0 i p B u v h;exact (r.all _ hm).2.2) b0 a7
 exact S8 (ke l) D ks (by simpa using a4) (by rw[r.size];exact hA) ol XJ he (by simpa using hg) r.base (λi p B u v h=>by obtain ⟨_,_,_, -, -, -, -, -, -, -,hm⟩:=a0 i p B u v h;exact (r.all _ hm).2.2) b0 a7
structure mG(wb w:World)(E:List (Nat×Nat×Nat)):Prop where
 base:wb.grownBy w none
 one:∀e∈E,∀e'∈E,e.2.1=e'.2.1->e=e'
 all:∀e∈E,wb.heap.size<=e.2.1/\NV w e.2.1 e.2.2
def mG.sub {E c:List (Nat×Nat×Nat)}(h:mG wb w E)(L:Ln)(e:L.map (λi=>E[i]?)=c.map some):mG wb w c:=by
 have d:∀x∈c,x∈E:=λx b=>by
  have:some x∈L.map (λi=>E[i]?):=by rw[e];exact eS.2 ⟨x,b,rfl⟩
  obtain ⟨i, -,f⟩:=eS.1 this;exact dc f
 exact ⟨h.base,λx b y g=>h.one x (d x b) y (d y g),λx b=>h.all x (d x b)⟩
def He(a:Act):List (Nat×Nat×Nat)->Prop
 |[]=>True
 |e::r=>a.tmps.getD e.1 undef=ptrTo e.2.1/\He a r
def Nn {a}:∀{E:List (Nat×Nat×Nat)},He a E->∀e∈E,a.tmps.getD e.1 undef=ptrTo e.2.1
 |[],_,_,h=>by cases h
 |e::r,f,x,h=>by
  rcases bp.1 h with rfl|h
  ·exact f.1
  exact Nn f.2 x h
def Env.start {E:List (Nat×Nat×Nat)}(h:mG wb w E)(f:He a E):Env wb w a a [] E:=
 ⟨h.base,rfl,rfl,λ_ _=>rfl,h.one,λe b=>⟨Nn f e b,(h.all e b).1,(h.all e b).2⟩⟩
def Env.sub {E c:List (Nat×Nat×Nat)}(h:Env wb w A a W E)(L:Ln)(e:L.map (λi=>E[i]?)=c.map some):Env wb w A a W c:=by
 have d:∀x∈c,x∈E:=λx b=>by
  have:some x∈L.map (λi=>E[i]?):=by rw[e];exact eS.2 ⟨x,b,rfl⟩
  obtain ⟨i, -,f⟩:=eS.1 this;exact dc f
 exact ⟨h.base,h.size,h.defs,h.same,λx b y g=>h.one x (d x b) y (d y g),λx b=>h.all x (d x b)⟩
def Env.nums {E:List (Nat×Nat×Nat)}(h:Env wb w A a W E):mG wb w E:=⟨h.base,h.one,λe b=>(h.all e b).2⟩
def Env.slot {E:List (Nat×Nat×Nat)}(h:Env wb w A a W E)(i:Nat){e:Nat×Nat×Nat}(b:E[i]?=some e):a.tmps.getD e.1 undef=ptrTo e.2.1:=(h.all e (dc b)).1
def Env.new {W1}{E:List (Nat×Nat×Nat)}(h:Env wb w A (fh a W vs) W1 E)(d:vs.length=W.length)(f:W.Nodup)(i j s B v:Nat)(b:E[i]?=some (s,B,v))(c:W[j]?=some s)(g:decide (s<a.tmps.size)=true):vs.getD j undef=ptrTo B:=by rw[<-PN W vs a j s f c d (BI g)];exact h.slot i b
def spread(vs:Lv):Nat->Nat->Lv
 |_,0=>[]
 |j,n+1=>vs.getD j undef::spread vs (j+1) n
def QI (l:Lv):∀(n j:Nat),j+n=l.length->spread l j n=l.drop j
 |0,j,h=>by rw[iP pm];rfl
 |n+1,j,h=>by rw[spread,QI l n (j+1) pm,jV (i:=j) pm,dh,aW pm];rfl
def aaC (h:vs.length=n):vs=spread vs 0 n:=by rw[QI vs n 0 pm];rfl
def Env.lit {W':Ln}{E:List (Nat×Nat×Nat)}(h:Env wb w A a W E)(e:W=W'):∃vs,vs.length=W'.length/\a=fh A W' vs:=by subst e;exact IU W A a h.size h.defs h.same
def Ot:∀(l:Lb) (q:Nat),aQ l/256^q=aQ (l.drop q)
 |l,0=>by simp
 |[],q+1=>by simp[aQ]
 |c::l,q+1=>by have:=c.toNat_lt;rw[EX,<-Ot l q,je,jH,<-qJ];congr 1;simp only[aQ];omega
def Tq (c m r:Nat)(b:r<8)(d:c<256):(c+256*m)/2^r%2=c/2^r%2:=by
 match r,b with
 |0,_=>omega
 |1,_=>omega
 |2,_=>omega
 |3,_=>omega
 |4,_=>omega
 |5,_=>omega
 |6,_=>omega
 |7,_=>omega
def ZC (l:Lb)(t:Nat)(h:t/8<l.length):aQ l/2^t%2=(l[t/8]).toNat/2^(t%8)%2:=by
 have e:2^t=256^(t/8)*2^(t%8):=by rw[show(256:Nat)=2^8from rfl,<-Nat.pow_mul,<-xu];congr 1;omega
 rw[e,<-qJ,Ot,jV h];simp only[aQ];exact Tq _ _ _ pm (vu _)
def SH (b:Lb)(t:Nat)(h:t/8<b.length)(f:t/8<(ByteArray.mk b.toArray).size):
 bits .and .u8 ((((ByteArray.mk b.toArray)[t/8]'f).toNat:Int)/2^(t%8)) 1=((aQ b/2^t%2:Nat):Int):=by
 rw[ZC b t h];have e:((ByteArray.mk b.toArray)[t/8]'f)=b[t/8]:=rfl;rw[e];generalize b[t/8]=c;have j:=c.toNat_lt;have d:((c.toNat:Int)/2^(t%8))=((c.toNat/2^(t%8):Nat):Int):=pu
 rw[d];have g:c.toNat/2^(t%8)<256:=kO (qQ _ _) pm;generalize c.toNat/2^(t%8)=n at*;clear e d;have:∀n:Fin 256,bits .and .u8 ((n.val:Nat):Int) 1=((n.val%2:Nat):Int):=wl
 exact this ⟨n,g⟩
def Ok:Ln:=[18446744073709551595,18446744073709551615,18446744073709551615,9223372036854775807]
def Zq:ko Ok=PP-2:=by rw[sx];decide+kernel
def F9 (h:gR l):∀x∈l,x<=9223372036854775808:=λx b=>by have:=h.le x b;omega
def Zr (s:jI)(bit:Nat):∃X2 Z2 X3 Z3,s.rO bit=⟨bit,X2,Z2,X3,Z3⟩:=by
 unfold jI.rO;by_cases h:bit=s.sw
 ·rw[av h];obtain ⟨b,x,y,z,t⟩:=s;exact ⟨x,y,z,t,by rw[show bit=b from h]⟩
 rw[au h];exact ⟨_,_,_,_,rfl⟩
structure Same(s:jI)(X2 Z2 X3 Z3:Nat):Prop where
 x2:X2=s.x2
 z2:Z2=s.z2
 x3:X3=s.x3
 z3:Z3=s.z3
def abS {s:jI}(h:bit=s.sw)(e:s.rO bit=⟨bit,X2,Z2,X3,Z3⟩):Same s X2 Z2 X3 Z3:=by unfold jI.rO at e;rw[av h]at e;rw[e];exact ⟨rfl,rfl,rfl,rfl⟩
def abR {s:jI}(h:bit≠s.sw)(e:s.rO bit=⟨bit,X2,Z2,X3,Z3⟩):Same ⟨s.sw,s.x3,s.z3,s.x2,s.z2⟩ X2 Z2 X3 Z3:=by unfold jI.rO at e;rw[au h]at e;injection e with _ a b c d;exact ⟨a.symm,b.symm,c.symm,d.symm⟩
def ZH (h:vs.length=4):∃b c d f,vs=[b,c,d,f]:=by
 match vs,h with
 |[b,c,d,f],_=>exact ⟨b,c,d,f,rfl⟩
def ZI (h:vs.length=8):∃b c d f g j k m,vs=[b,c,d,f,g,j,k,m]:=by
 match vs,h with
 |[b,c,d,f,g,j,k,m],_=>exact ⟨b,c,d,f,g,j,k,m,rfl⟩
def len2 (h:vs.length=2):∃b c,vs=[b,c]:=by
 match vs,h with
 |[b,c],_=>exact ⟨b,c,rfl⟩
def Vh w (R ul:Lb)(f9:R.length=32)(g0:ul.length=32):
 Calls prog 108 #[S R,S ul] w (Grown (S (aP (DH (aQ R) (aQ ul)%PP) 32)) w):=by
 have RD:=VH w ul g0;obtain ⟨X,hX⟩:=kq (aQ ul);have HX:=Hq hX;rw[<-hX];unfold S at*;have d':=Hq f9;clear f9 g0 hX;go_enter func108,ntmps108;go_wp2_with fail;refine RD.mono ?_;rintro e y ⟨l,rfl,ok,hv,c4⟩;rw[<-HX.out]at hv;obtain ⟨u,C,I,J,P,el⟩:=cX ok.length;have p:N5 l= .agg #[.int .u64 u, .int .u64 C, .int .u64 I, .int .u64 J, .int .u64 P]:=by rw[el];rfl
 rw[p];obtain ⟨d,a9⟩:=kq y.heap.size;obtain ⟨z,hz⟩:=kq ((y.alloc (.cells #[.int .u64 u, .int .u64 C, .int .u64 I, .int .u64 J, .int .u64 P] 144)).alloc (.cells #[.int .u64 121665, .int .u64 0, .int .u64 0, .int .u64 0, .int .u64 0] 144));have f2:NV z d X:=⟨[u,C,I,J,P],by rw[hz,a9];exact cG (aO _ _),by rw[<-el];exact ok,by rw[<-el];exact hv⟩;have c1:NV z (d+1) 121665:=⟨[121665,0,0,0,0],by rw[hz,a9];have:=aO (y.alloc (.cells #[.int .u64 u, .int .u64 C, .int .u64 I, .int .u64 J, .int .u64 P] 144)) (.cells #[.int .u64 121665, .int .u64 0, .int .u64 0, .int .u64 0, .int .u64 0] 144);rw[show(y.alloc (.cells #[.int .u64 u, .int .u64 C, .int .u64 I, .int .u64 J, .int .u64 P] 144)).heap.size=y.heap.size+1from pu]at this;exact this,⟨121665,[0,0,0,0],rfl,rfl,pm,pu⟩,wl⟩
 have d8:w.grownBy z none:=by rw[hz];exact aF (aF c4 _) _
 have LW:w.heap.size<=d:=by rw[a9];exact c4.size
 have d6:=Hq a9;have HZ:=Hq hz;clear el p ok hv c4 RD a9 hz;go_upto_region 3with(fail);rw[<-HZ.out,<-d6.out];obtain ⟨f,f3⟩:=kq (d+1);rw[<-f3]at c1⊢;have lw:w.heap.size<=d:=LW;have HN:mG w z [(5,d,X),(7,f,121665)]:=⟨d8,pp,by simp;exact ⟨⟨lw,f2⟩,pm,c1⟩⟩;refine mZ (W:=[31,32,33,34,8,9,10,11]) (Env.start HN ⟨rfl,rfl,trivial⟩) rfl rfl qr qr qr rfl ?_;intro vs x1 g j h;obtain ⟨j',k0,k1,k2,v8,v9,h0,h1,rfl⟩:=ZI (j.trans rfl);obtain rfl:v8=ptrTo (g 8):=h.new j ut 2 4 8 (g 8) 1 qr rfl qr;obtain rfl:v9=ptrTo (g 9):=h.new j ut 3 5 9 (g 9) 0 qr rfl qr;obtain rfl:h0=ptrTo (g 10):=h.new j ut 4 6 10 (g 10) X qr rfl qr;obtain rfl:h1=ptrTo (g 11):=h.new j ut 5 7 11 (g 11) 1 qr rfl qr;have HM:mG w x1 [(5,d,X),(7,f,121665),(8,g 8,1),(9,g 9,0),(10,g 10,X),(11,g 11,1)]:=(h.sub [0,1,2,3,4,5] qr).nums;generalize g 8=b at*;generalize g 9=c at*;generalize g 10=k at*;generalize g 11=m at*;have e0:=Hq HM;clear h j HM HN HZ d6 f3 f2 c1 d8 lw;simp only[fh,ptrTo,Act.put,Bm,ny,iD];go_wp2_with fail;obtain ⟨K,hK⟩:=kq (aQ R);have HK:=Hq hK;clear hK
 go_loopw [12,13] (λh2 c6 wr=>∃i:Nat,i<=255/\h2= .int .u8 ((mo K X i).sw:Nat)/\c6= .int .i64 (254-(i:Int))/\Hid (mG w wr [(5,d,X),(7,f,121665),(8,b,(mo K X i).x2),(9,c,(mo K X i).z2),(10,k,(mo K X i).x3),(11,m,(mo K X i).z3)])) (λ_ c6 _=>(intOf c6+1).toNat)
 case atStart=>exact ⟨0,pm,rfl,rfl,e0⟩
 case round=>
  clear e0;obtain ⟨i,hi,rfl,rfl,p⟩:=hrel;by_cases g':i<255
  ·obtain ⟨t,ht,j5⟩:∃t:Nat,254-(i:Int)=(t:Int)/\t+i=254:=⟨254-i,pm,pm⟩;rw[ht];obtain ⟨s,hs⟩:=kq (mo K X i);rw[<-hs]at p⊢;have HS:=Hq hs;have HT:=Hq ht;have hd:decide ((t:Int)≥0)=true:=pu;have i1:(t:Int)/8<(R.length:Int):=(by rw[d'.out];omega);have i2:t/8<R.length:=(by rw[d'.out];omega);have j7:t<=254:=pm;clear hs ht;have hb:=SH R t i2 (by simpa[ByteArray.size]using i2);rw[<-HK.out]at hb;have g7:K/2^t%2<2:=dQ _ pm;obtain ⟨bit,c2⟩:=kq (K/2^t%2);rw[<-c2]at hb g7;have g3:=Hq c2;have d7:=Hq hb;clear c2 hb;go_upto_region 9with(fail);rw[d7.out];clear d7;obtain ⟨X2,Z2,X3,Z3,hT⟩:=Zr s bit;have b7:=Hq hT;clear hT;go_upto_if 49with(fail);go_cut [] (λwx=>Hid (mG w wx [(5,d,X),(7,f,121665),(8,b,X2),(9,c,Z2),(10,k,X3),(11,m,Z3)]))
   case first=>
    by_cases r:bit=s.sw
    ·obtain ⟨rfl,rfl,rfl,rfl⟩:=abS r b7.out;have c3:((bit:Int) !=(s.sw:Int))=false:=(by rw[r];simp);clear r;go_wp2;go_meet;exact p
    obtain ⟨rfl,rfl,rfl,rfl⟩:=abR r b7.out;have c3:((bit:Int) !=(s.sw:Int))=true:=by rw[dY];intro e;exact r pm
    clear r;go_upto_region 10with(fail);refine mZ (W:=[50,51,52,53]) (Env.start p.out ⟨rfl,rfl,rfl,rfl,rfl,rfl,trivial⟩) rfl rfl qr qr qr rfl ?_;intro vs wx g j h;obtain ⟨k3,k4,k5,k6,rfl⟩:=ZH (j.trans rfl);have HF:=Hq ((h.sub [0,1,2,3,4,5] qr).nums:mG w wx [(5,d,X),(7,f,121665),(8,b,s.x3),(9,c,s.z3),(10,k,s.x2),(11,m,s.z2)]);clear h j p;simp only[fh,ptrTo,Act.put,Bm,ny,iD];go_wp2;go_meet;exact HF
   case rest=>
    clear p;go_upto_region 12with(fail);refine mZ (Env.start hcut.out ⟨rfl,rfl,rfl,rfl,rfl,rfl,trivial⟩) rfl rfl qr qr qr rfl ?_;intro vs h3 g _ h;obtain ⟨b',e2⟩:∃x,x=g 15:=⟨_,rfl⟩;obtain ⟨c0,e3⟩:∃x,x=g 16:=⟨_,rfl⟩;replace h:Env w h3 _ _ _ [(5,d,X),(7,f,121665),(8,b,X2),(9,c,Z2),(10,k,X3),(11,m,Z3),(15,g 15,eg X2 Z2),(16,g 16,eP X2 Z2)]:=h.sub [0,1,2,3,4,5,6,7] qr;rw[<-e2,<-e3]at h;generalize fh _ _ vs=i4 at h⊢;have c7:=Hq h;clear h hcut e2 e3;go_upto_region 13with(fail);refine mZ (c7.out) rfl rfl qr qr qr rfl ?_;intro vs h4 g _ h;obtain ⟨U,e4⟩:∃x,x=g 17:=⟨_,rfl⟩;obtain ⟨a5,e5⟩:∃x,x=g 18:=⟨_,rfl⟩;replace h:Env w h4 _ _ _ [(5,d,X),(7,f,121665),(8,b,X2),(9,c,Z2),(10,k,X3),(11,m,Z3),(15,b',eg X2 Z2),(16,c0,eP X2 Z2),(17,g 17,ee (eg X2 Z2) (eg X2 Z2)),(18,g 18,ee (eP X2 Z2) (eP X2 Z2))]:=h.sub [0,1,2,3,4,5,6,7,8,9] qr;rw[<-e4,<-e5]at h;generalize fh _ _ vs=i5 at h⊢;have c8:=Hq h;clear h c7 e4 e5;go_upto_region 14with(fail);refine mZ (c8.out) rfl rfl qr qr qr rfl ?_;intro vs h5 g _ h;obtain ⟨a6,e6⟩:∃x,x=g 19:=⟨_,rfl⟩
    replace h:Env w h5 _ _ _ [(5,d,X),(7,f,121665),(8,b,X2),(9,c,Z2),(10,k,X3),(11,m,Z3),(15,b',eg X2 Z2),(16,c0,eP X2 Z2),(17,U,ee (eg X2 Z2) (eg X2 Z2)),(18,a5,ee (eP X2 Z2) (eP X2 Z2)),(19,g 19,rC X2 Z2)]:=h.sub [0,1,2,3,4,5,6,7,8,9,10] qr;rw[<-e6]at h;generalize fh _ _ vs=i6 at h⊢;have c9:=Hq h;clear h c8 e6;go_upto_region 15with(fail);refine mZ (c9.out) rfl rfl qr qr qr rfl ?_;intro vs h6 g _ h;obtain ⟨j3,e7⟩:∃x,x=g 20:=⟨_,rfl⟩;obtain ⟨j4,e8⟩:∃x,x=g 21:=⟨_,rfl⟩;replace h:Env w h6 _ _ _ [(5,d,X),(7,f,121665),(8,b,X2),(9,c,Z2),(10,k,X3),(11,m,Z3),(15,b',eg X2 Z2),(16,c0,eP X2 Z2),(17,U,ee (eg X2 Z2) (eg X2 Z2)),(18,a5,ee (eP X2 Z2) (eP X2 Z2)),(19,a6,rC X2 Z2),(20,g 20,eg X3 Z3),(21,g 21,eP X3 Z3)]:=h.sub [0,1,2,3,4,5,6,7,8,9,10,11,12] qr;rw[<-e7,<-e8]at h;generalize fh _ _ vs=i7 at h⊢;have c':=Hq h;clear h c9 e7 e8;go_upto_region 16with(fail);refine mZ (c'.out) rfl rfl qr qr qr rfl ?_;intro vs h7 g _ h;obtain ⟨f0,e9⟩:∃x,x=g 22:=⟨_,rfl⟩;obtain ⟨f1,e'⟩:∃x,x=g 23:=⟨_,rfl⟩
    replace h:Env w h7 _ _ _ [(5,d,X),(7,f,121665),(8,b,X2),(9,c,Z2),(10,k,X3),(11,m,Z3),(17,U,ee (eg X2 Z2) (eg X2 Z2)),(18,a5,ee (eP X2 Z2) (eP X2 Z2)),(19,a6,rC X2 Z2),(22,g 22,td X2 Z2 X3 Z3),(23,g 23,ta X2 Z2 X3 Z3)]:=h.sub [0,1,2,3,4,5,8,9,10,13,14] qr;rw[<-e9,<-e']at h;generalize fh _ _ vs=i8 at h⊢;have d0:=Hq h;clear h c' e9 e';go_upto_region 17with(fail);refine mZ (d0.out) rfl rfl qr qr qr rfl ?_;intro vs h8 g _ h;replace h:Env w h8 _ _ _ [(5,d,X),(7,f,121665),(8,b,X2),(9,c,Z2),(10,k,eg (td X2 Z2 X3 Z3) (ta X2 Z2 X3 Z3)),(11,m,Z3),(17,U,ee (eg X2 Z2) (eg X2 Z2)),(18,a5,ee (eP X2 Z2) (eP X2 Z2)),(19,a6,rC X2 Z2),(22,f0,td X2 Z2 X3 Z3),(23,f1,ta X2 Z2 X3 Z3)]:=h.sub [0,1,2,3,4,5,6,7,8,9,10] qr;generalize fh _ _ vs=i9 at h⊢;have d1:=Hq h;clear h d0;go_upto_region 18with(fail);refine mZ (d1.out) rfl rfl qr qr qr rfl ?_;intro vs h9 g _ h;replace h:Env w h9 _ _ _ [(5,d,X),(7,f,121665),(8,b,X2),(9,c,Z2),(10,k,wg X2 Z2 X3 Z3),(11,m,Z3),(17,U,ee (eg X2 Z2) (eg X2 Z2)),(18,a5,ee (eP X2 Z2) (eP X2 Z2)),(19,a6,rC X2 Z2),(22,f0,td X2 Z2 X3 Z3),(23,f1,ta X2 Z2 X3 Z3)]:=h.sub [0,1,2,3,4,5,6,7,8,9,10] qr;generalize fh _ _ vs=i' at h⊢;have d2:=Hq h;clear h d1;go_upto_region 19with(fail)
    refine mZ (d2.out) rfl rfl qr qr qr rfl ?_;intro vs h' g _ h;replace h:Env w h' _ _ _ [(5,d,X),(7,f,121665),(8,b,X2),(9,c,Z2),(10,k,wg X2 Z2 X3 Z3),(11,m,eP (td X2 Z2 X3 Z3) (ta X2 Z2 X3 Z3)),(17,U,ee (eg X2 Z2) (eg X2 Z2)),(18,a5,ee (eP X2 Z2) (eP X2 Z2)),(19,a6,rC X2 Z2)]:=h.sub [0,1,2,3,4,5,6,7,8] qr;generalize fh _ _ vs=j0 at h⊢;have d3:=Hq h;clear h d2;go_upto_region 20with(fail);refine mZ (d3.out) rfl rfl qr qr qr rfl ?_;intro vs i0 g _ h;replace h:Env w i0 _ _ _ [(5,d,X),(7,f,121665),(8,b,X2),(9,c,Z2),(10,k,wg X2 Z2 X3 Z3),(11,m,Ah X X2 Z2 X3 Z3),(17,U,ee (eg X2 Z2) (eg X2 Z2)),(18,a5,ee (eP X2 Z2) (eP X2 Z2)),(19,a6,rC X2 Z2)]:=h.sub [0,1,2,3,4,5,6,7,8] qr;generalize fh _ _ vs=j1 at h⊢;have d4:=Hq h;clear h d3;go_upto_region 21with(fail);refine mZ (d4.out) rfl rfl qr qr qr rfl ?_;intro vs i3 g _ h;replace h:Env w i3 _ _ _ [(5,d,X),(7,f,121665),(8,b,DI X2 Z2),(9,c,Z2),(10,k,wg X2 Z2 X3 Z3),(11,m,Ah X X2 Z2 X3 Z3),(17,U,ee (eg X2 Z2) (eg X2 Z2)),(19,a6,rC X2 Z2)]:=h.sub [0,1,2,3,4,5,6,8] qr;generalize fh _ _ vs=j2 at h⊢;have d5:=Hq h;clear h d4;go_upto_region 22with(fail);refine mZ (d5.out) rfl rfl qr qr qr rfl ?_
    intro vs g2 g _ h;replace h:Env w g2 _ _ _ [(5,d,X),(7,f,121665),(8,b,DI X2 Z2),(9,c,Ik X2 Z2),(10,k,wg X2 Z2 X3 Z3),(11,m,Ah X X2 Z2 X3 Z3)]:=h.sub [0,1,2,3,4,5] qr;obtain ⟨vs,j,e⟩:=h.lit (W':=[55,56,57,58,59,60,15,16,61,62,63,64,65,66,17,18,67,68,69,19,70,71,72,73,74,75,20,21,76,77,78,79,80,81,22,23,82,83,84,85,86,87,88,89,90,91,92,93,94,95,96,97,98,99,100,101,102,103,104,105]) rfl;rw[e,aaC (j.trans rfl:vs.length=60)];have f':mo K X (i+1)=(jI.mk bit X2 Z2 X3 Z3).step X:=by show((mo K X i).rO (K/2^(254-i)%2)).step X=_;rw[<-HS.out,show 254-i=t from pm,<-g3.out,b7.out]
    have e1:=Hq f';have HF:=Hq (h.nums:mG w g2 [(5,d,X),(7,f,121665),(8,b,(DI X2 Z2)),(9,c,(Ik X2 Z2)),(10,k,(wg X2 Z2 X3 Z3)),(11,m,(Ah X X2 Z2 X3 Z3))]);clear h j e d5 f';simp only[spread,fh,ptrTo,Act.put,Bm,ny,iD];go_wp2;go_roundw
    case rel=>exact ⟨i+1,pm,by rw[e1.out];rfl,by have:=HT.out;go_num,by rw[e1.out];exact HF⟩
    case measure=>simp[intOf]
  obtain rfl:i=255:=pm
  rw[show(254:Int)-((255:Nat):Int)= -1from pm];have b6:=Zp K X 255;have c5:DH (aQ R) X=we (mo K X 255):=by rw[<-HK.out];rfl
  obtain ⟨s,hs⟩:=kq (mo K X 255);rw[<-hs]at p b6 c5⊢;have g6:=Hq c5;clear hs c5 g';go_upto_region 23with(fail);go_upto_if 107with(fail);go_cut [] (λwx=>∃x z,Hid (mG w wx [(8,b,x),(9,c,z)])/\Hid (ee x (z^(PP-2))=we s))
  case first=>
   by_cases r:s.sw=1
   ·have a':ee s.x3 (s.z3^(PP-2))=we s:=by unfold we;rw[av r]
    have a8:=Hq a';have c3:((s.sw:Int)==1)=true:=(by rw[r];rfl);clear a' r b6;go_upto_region 24with(fail);refine mZ (W:=[108,109]) (Env.start p.out ⟨rfl,rfl,rfl,rfl,rfl,rfl,trivial⟩) rfl rfl qr qr qr rfl ?_;intro vs wx g j h;obtain ⟨j8,j9,rfl⟩:=len2 (j.trans rfl);have HF:=Hq ((h.sub [2,3] qr).nums:mG w wx [(8,b,s.x3),(9,c,s.z3)]);clear h j p;simp only[fh,ptrTo,Act.put,Bm,ny,iD];go_wp2;go_meet;exact ⟨_,_,HF,a8⟩
   have a':ee s.x2 (s.z2^(PP-2))=we s:=by unfold we;rw[au r]
   have a8:=Hq a';have c3:((s.sw:Int)==1)=false:=(by rw[dC];omega);have HF:=Hq (p.out.sub [2,3] rfl:mG w wr [(8,b,s.x2),(9,c,s.z2)]);clear a' r b6 p;go_wp2;go_meet;exact ⟨_,_,HF,a8⟩
  case rest=>
   obtain ⟨x,z,b5,a8⟩:=hcut;have d9:=b5.out.base;have g8:=(b5.out.all _ (BD)).2;have g9:=(b5.out.all _ (wY _ BD)).2;clear p b5 b6;obtain ⟨la,na,oa,ea⟩:=g8;obtain ⟨lb,nb,ob,eb⟩:=g9;obtain ⟨u,C,I,J,P,b8⟩:=cX oa.length;obtain ⟨b0,b1,b2,b3,b4,b9⟩:=cX ob.length;have f4:N5 la= .agg #[.int .u64 u, .int .u64 C, .int .u64 I, .int .u64 J, .int .u64 P]:=(by rw[b8];rfl);have f5:N5 lb= .agg #[.int .u64 b0, .int .u64 b1, .int .u64 b2, .int .u64 b3, .int .u64 b4]:=(by rw[b9];rfl);rw[b8]at na;rw[b9]at nb;have a7:∀(W:World),wc.grownBy W none->W.cell? ⟨b,0,none⟩=some (.int .u64 u)/\W.cell? ⟨b,1,none⟩=some (.int .u64 C)/\W.cell? ⟨b,2,none⟩=some (.int .u64 I)/\W.cell? ⟨b,3,none⟩=some (.int .u64 J)/\W.cell? ⟨b,4,none⟩=some (.int .u64 P)/\W.cell? ⟨c,0,none⟩=some (.int .u64 b0)/\W.cell? ⟨c,1,none⟩=some (.int .u64 b1)/\W.cell? ⟨c,2,none⟩=some (.int .u64 b2)/\W.cell? ⟨c,3,none⟩=some (.int .u64 b3)/\W.cell? ⟨c,4,none⟩=some (.int .u64 b4):=λW g=>by obtain ⟨⟨p0,p1,p2,p3,p4⟩,_⟩:=NB.cX (ab.kept na g nofun);obtain ⟨⟨q0,q1,q2,q3,q4⟩,_⟩:=NB.cX (ab.kept nb g nofun);exact ⟨p0,p1,p2,p3,p4,q0,q1,q2,q3,q4⟩
   have gd:=aM (ak wc none);have AP:Calls prog 89 #[.agg #[.int .u64 b0, .int .u64 b1, .int .u64 b2, .int .u64 b3, .int .u64 b4], .slice (some ⟨wc.heap.size,0,none⟩) 4 4] (wc.alloc (.cells #[.int .u64 18446744073709551595, .int .u64 18446744073709551615, .int .u64 18446744073709551615, .int .u64 9223372036854775807] 97)).drew (Ki lb (PP-2) (wc.alloc (.cells #[.int .u64 18446744073709551595, .int .u64 18446744073709551615, .int .u64 18446744073709551615, .int .u64 9223372036854775807] 97)).drew):=by have:=VG (wc.alloc (.cells #[.int .u64 18446744073709551595, .int .u64 18446744073709551615, .int .u64 18446744073709551615, .int .u64 9223372036854775807] 97)).drew lb ob wc.heap.size 97 Ok (ym wc _) ut ut;rw[f5,Zq]at this;exact this
   have AT:∀(W:World) (L:Ln),gR L->Calls prog 87 #[.agg #[.int .u64 u, .int .u64 C, .int .u64 I, .int .u64 J, .int .u64 P],N5 L] W (zk (aU la*aU L) W):=λW L h=>by rw[<-f4];exact CX W la L oa h
   have AX:∀(W:World) (M:Ln),gR M->Calls prog 139 #[N5 M] W (Grown (S (aP (aU M%PP) 32)) W):=λW M h=>VK W M h.length (F9 h);have HN:=Hq (And.intro ea eb);have g4:=Hq d9;clear na nb b8 b9 f4 f5 oa ob ea eb d9;unfold S at AX;have j6:IntKind.u64.wrap 18446744073709551595=18446744073709551595:=wl
   go_upto_region 26with(fail);have T0:=a7 wc.drew gd;have T1:=a7 (wc.alloc (.cells #[.int .u64 18446744073709551595, .int .u64 18446744073709551615, .int .u64 18446744073709551615, .int .u64 9223372036854775807] 97)).drew (aM (aF (ak wc none) _));go_region_held3 (λW=>W.cell? ⟨b,0,none⟩=some (.int .u64 u)/\W.cell? ⟨b,1,none⟩=some (.int .u64 C)/\W.cell? ⟨b,2,none⟩=some (.int .u64 I)/\W.cell? ⟨b,3,none⟩=some (.int .u64 J)/\W.cell? ⟨b,4,none⟩=some (.int .u64 P)/\W.cell? ⟨c,0,none⟩=some (.int .u64 b0)/\W.cell? ⟨c,1,none⟩=some (.int .u64 b1)/\W.cell? ⟨c,2,none⟩=some (.int .u64 b2)/\W.cell? ⟨c,3,none⟩=some (.int .u64 b3)/\W.cell? ⟨c,4,none⟩=some (.int .u64 b4)) (first|exact T0|exact T1|exact T2|exact T3|exact T4) (first
    |(go_at_call 89;(with_reducible refine AP.mono ?_);rintro e y1 ⟨L,rfl,hP,f6⟩;have G1:=ai (aM (aF (ak _ none) _)) f6;have T2:=a7 y1 G1;have oL:gR L:=hP.1)
    |(go_at_call 87;(with_reducible refine (AT _ L oL).mono ?_);rintro e y2 ⟨M,rfl,oM,hM,f7⟩;have G2:=ai G1 f7;have T3:=a7 y2 G2)
    |(go_at_call 139;(with_reducible refine (AX _ M oM).mono ?_);rintro e y3 ⟨rfl,f8⟩;have G3:=ai G2 f8;have T4:=a7 y3 G3))
   all_goals
    have g5:=Hq (ai g4.out G3);have g1:aU la*aU L%PP=DH (aQ R) X%PP:=by rw[g6.out,<-a8.out];unfold ee;rw[Nat.mod_mod,tP,hP.2,HN.out.1,Nat.pow_mod,HN.out.2,<-Nat.pow_mod,<-tP]
    have HV:=Hq g1;clear g1;clear G1 G2 G3 f6 f7 f8 T0 T1 T2 T3 T4 a7 AP AT AX gd;go_wp2;go_ret;refine ⟨?_,g5.out⟩;show Ending.returned (Value.string ⟨(aP (aU la*aU L%PP) 32).toArray⟩)=_;rw[HV.out]
def rk(k:Lb):Lb:=(k.set 0 (k.getD 0 0&&&248)).set 31 (k.getD 31 0&&&127|||64)
def uC(u:Lb):Lb:=u.set 31 (u.getD 31 0&&&127)
def cS(k u:Lb):Lb:=aP (DH (aQ (rk k)) (aQ (uC u))%PP) 32
def Lj k:(rk k).length=k.length:=by simp[rk]
def OH u:(uC u).length=u.length:=by simp[uC]
def ti k u:(cS k u).length=32:=gE _ _
def u8_and (c:UInt8)(N:Int)(m:UInt8)(hm:N=(m.toNat:Int)):bits .and .u8 (c.toNat:Int) N=((c&&&m).toNat:Int):=by subst hm;rw[UInt8.toNat_and];exact u8_and_nat _ _ (iO c) (iO m)
def u8_or (c:UInt8)(N:Int)(m:UInt8)(hm:N=(m.toNat:Int)):bits .or .u8 (c.toNat:Int) N=((c|||m).toNat:Int):=by subst hm;rw[UInt8.toNat_or];exact u8_or_nat _ _ (iO c) (iO m)
def Ug w (k:Lb)(u:k.length=32):Calls prog 107 #[S k] w (Grown (.tuple #[S (rk k), .int .i64 0]) w):=by
 obtain ⟨C,x,p,P,r,R,b⟩:=Ez w k pm;obtain ⟨B,g⟩:=kq w.heap.size;rw[<-g]at p b R;have h0:=b.cell 0 pm;have f0:=b.frozen 0 pm;have j:rk k=(k.set 0 (k[0]&&&248)).set 31 (k[31]&&&127|||64):=by unfold rk;rw[dh,aW pm,dh,aW pm];rfl
 have f:=b.set 0 (k[0]&&&248) pm;have J:=f.cell 31 (by rw[gL];omega);have a0:=f.frozen 31 (by rw[gL];omega);rw[List.getElem_set_ne pm]at J;have h:=f.set 31 (k[31]&&&127|||64) (by rw[gL];omega);rw[<-j]at h;have m:=nJ h C;rw[Lj]at m;have U:=u8_and k[0] 248 248 rfl;have a2:=u8_and k[31] 127 127 rfl;have a3:=u8_or (k[31]&&&127) 64 64 rfl;have s:w.grownBy ((x.setCell ⟨B,0,none⟩ (.int .u8 ((k[0]&&&248).toNat))).setCell ⟨B,31,none⟩ (.int .u8 ((k[31]&&&127|||64).toNat))) none:=cj (cj r _ (by rw[g];exact bm _) _) _ (by rw[g];exact bm _) _;have z:=Hq s;have q:((k.length:Int) !=32)=false:=by rw[u];rfl
 clear j f h s b r g;generalize rk k=V at*;generalize k[0]=c at*;generalize k[31]=d at*;rw[u]at p m P;generalize c&&&248=c' at*;generalize d&&&127=I at*;generalize I|||64=d2 at*;unfold S;go_enter func107,ntmps107;go_wp2;go_ret2;exact ⟨rfl,z.out⟩
def Gg w (k u:Lb)(P:k.length=32)(c:u.length=32):Calls prog 61 #[S k,S u] w (Grown (.tuple #[S (cS k u), .int .i64 0]) w):=by
 have AC:=λW:World=>Ug W k P;have AL:∀W:World,Calls prog 108 #[S (rk k),S (uC u)] W (Grown (S (cS k u)) W):=λW=>Vh W (rk k) (uC u) (by rw[Lj,P]) (by rw[OH,c]);generalize cS k u=R at*;generalize rk k=K at*;have q:((u.length:Int) !=32)=false:=by rw[c];rfl
 have m:=Hq (λW:World=>Ez W u pm);have s:uC u=u.set 31 (u[31]&&&127):=by unfold uC;rw[dh,aW pm];rfl
 have r:=Hq s;have f:=Hq c;have U:=OH u;have a2:=u8_and u[31] 127 127 rfl;have p:=Hq U;clear s U;unfold S at*;go_enter func61,ntmps61;go_wp2_with fail;refine ax (AC _) λx1 j=>?_;obtain ⟨a0,x,C,a1,I,a4,b⟩:=m.out x1;obtain ⟨B,h⟩:=kq x1.heap.size;rw[<-h]at C b a4;have a6:=b.cell 31 (by have:=f.out;omega);have a5:=b.frozen 31 (by have:=f.out;omega);have g:=b.set 31 (u[31]&&&127) (by have:=f.out;omega);rw[<-r.out]at g;have z:=nJ g a0;rw[p.out]at z;have J:w.grownBy (x.setCell ⟨B,31,none⟩ (.int .u8 ((u[31]&&&127).toNat))) none:=cj (ai j I) _ (by rw[h];exact j.size) _;have HG:=Hq J;clear g J b I j r p m AC h;generalize uC u=V at*;generalize u[31]=d at*;generalize d&&&127=d1 at*;rw[c]at C z a1;go_wp2_with fail;refine ax (AL _) λx3 a3=>?_;go_wp2;go_ret2;exact ⟨rfl,ai HG.out a3⟩
def eB:Lb:=9::List.replicate 31 0
def xP w (k:Lb)(g:k.length=32):Calls prog 38 #[S k] w (Grown (.tuple #[S (cS k eB), .int .i64 0]) w):=by
 have c:∀W:World,Calls prog 62 #[.string ⟨#[0]⟩, .int .i64 31] W (Grown (S (cI 31)) W):=λW=>yt W 31 pm;have b:∀W:World,Calls prog 61 #[S k,S (9::cI 31)] W (Grown (.tuple #[S (cS k eB), .int .i64 0]) W):=λW=>Gg W k eB g ut;have p:=eD;have r:∀(a:Lb),ByteArray.mk #[9]++ByteArray.mk a.toArray=⟨([9]++a).toArray⟩:=λa=>eD [9] a;have m:(cI 31).length=31:=ut
 generalize cS k eB=V at*;generalize cI 31=Z at*;have h:1+Z.length<=9223372036854775807:=pm
 have j:¬(9223372036854775807<1+Z.length):=pm
 unfold S at*;go_enter func38,ntmps38;go_wp2_with fail;refine ax (c _) λx1 d=>?_;go_wp2_with fail;refine ax (b _) λx2 f=>?_;go_wp2;go_ret2;exact ⟨rfl,ai d f⟩
def MH {α:Type}(p:α->Bool):∀l:List α,l.dropWhile p=[]->∀b∈l,p b=true
 |[],_,b,c=>by cases c
 |a::l,h,b,c=>by
  rw[List.dropWhile_cons]at h;split at h
  ·rename_i d;rcases bp.1 c with rfl|c
   ·exact d
   exact MH p l h b c
  cases h
def MI {α:Type}(p:α->Bool):∀l:List α,∀b∈l,p b=true\/b∈l.dropWhile p
 |[],b,c=>by cases c
 |a::l,b,c=>by
  rw[List.dropWhile_cons];split
  ·rename_i d;rcases bp.1 c with rfl|c
   ·exact Or.inl d
   exact MI p l b c
  exact Or.inr c
def abO l (h:Lib.trimB l 0=[]):l=List.replicate l.length 0:=by
 refine List.eq_replicate_iff.2 ⟨rfl,λb c=>?_⟩;unfold Lib.trimB Lib.trimLeftB Lib.trimRightB at h;rcases MI (·==(0:UInt8)) l.reverse b (List.mem_reverse.2 c)with q|q
 ·simpa using q
 have:=MH _ _ h b (List.mem_reverse.2 q);simpa using this
def Zz:aP 0 32=List.replicate 32 0:=ut
def Ul w (k u:Lb)(c:k.length=32)(d:u.length=32)(h0:cS k u≠aP 0 32):Calls prog 54 #[S k,S u] w (Grown (.tuple #[S (cS k u), .int .i64 0]) w):=by
 have f:=λW:World=>Gg W k u c d;have p:(cS k u).length=32:=ti _ _;have b:Lib.trimB (cS k u) 0≠[]:=λe=>h0 (by rw[Zz,<-p];exact abO _ e)
 clear h0 c d;generalize cS k u=V at*;have g:∀W:World,Calls prog 90 #[S V, .string ⟨#[0]⟩] W (Grown (S (Lib.trimB V 0)) W):=λW=>by
  refine ax (Tryz.strings_Trim_one ⟨V.toArray⟩ 0 ut W (by show(ByteArray.mk V.toArray).size<=_;simp[ByteArray.size];omega)) λy h=>?_;refine ⟨rfl,?_⟩;rcases h with rfl|rfl
  ·exact ak _ _
  exact aM (ak _ _)
 generalize Lib.trimB V 0=Z at*;have r:(Z==[])=false:=dC.2 b;have s:Z.isEmpty=false:=by rw[ou];exact b
 have z:¬Z=[]:=b;unfold S at*;go_enter func54,ntmps54;go_wp2_with fail;refine ax (f _) λx1 j=>?_;go_wp2_with fail;refine ax (g _) λx2 m=>?_;go_wp2;go_ret2;exact ⟨rfl,ai j m⟩
def CR (w:World)(b n:Nat)(c:List Lb)(j:c.length=n)(I:n<=100)(g:∀i (s:i<c.length),w.cell? ⟨b,i,none⟩=some (S c[i]))(f:∀x∈c,x.length=32):
 Calls prog 219 #[.slice (some ⟨b,0,none⟩) n n] w λe C=>e= .returned (.bool true)/\w=C:=by
 have m:=Hq g;have p:=Hq j;have k:=Hq f;clear g j f;go_enter func219,ntmps219;go_wp2_with fail;go_loop [7] (λd=>∃i:Nat,i<=n/\d= .int .i64 i) (λd=>n-(intOf d).toNat)
 case atStart=>exact ⟨0,pm,rfl⟩
 case round=>
  obtain ⟨i,s,rfl⟩:=hrel;by_cases u:i<n
  ·have h:i<c.length:=by rw[p.out];exact u
   have r:=m.out i h;have z:=k.out _ (iE h);generalize c[i]=l at*;unfold S at r;have J:(i:Int)<(n:Int):=pm;have P:((l.length:Int) !=32)=false:=(by rw[z];rfl);go_wp2;go_round
   case rel=>exact ⟨i+1,pm,by go_num⟩
   case measure=>simp[intOf];omega
  obtain rfl:i=n:=pm
  go_wp2;go_ret;exact ⟨rfl,rfl⟩
def vQ w (s:Nat)(b:s=1\/s=2):Calls prog 218 #[.int .i64 s] w λe c=>e= .returned (.bool true)/\w=c:=by
 rcases b with rfl|rfl
 ·go_enter func218,ntmps218;go_wp2;go_ret;exact ⟨rfl,rfl⟩
 go_enter func218,ntmps218;go_wp2;go_ret;exact ⟨rfl,rfl⟩
def GC w (n:Nat)(j:n<4294967296):Calls prog 224 #[.int .u32 n] w (Grown (S (aP n 4)) w):=by have b:∀W:World,Calls prog 96 #[.slice none 0 0, .int .u64 n, .int .i64 4] W (oG W W.heap.size (aP n 4)):=λW=>pD W W.heap.size (.slice none 0 0) [] n 4 (mO _ _) pm pm pu (bm _);have k:IntKind.u64.wrap (n:Int)=(n:Int):=dE _ pm;generalize aP n 4=B at*;unfold S;go_enter func224,ntmps224;go_wp2_with fail;refine (b _).mono ?_;rintro e h ⟨v,rfl,d,c⟩;have g:=jL d;unfold S at g;have f:Hid (w.grownBy h none):=Hq (iU c);clear b c d;go_wp2;go_ret;exact ⟨rfl,f.out⟩
def Wi w (l:Lb)(c:UInt8)(s n:Nat)(f:s=1\/s=2)(t:Lb)(d:l=c::UInt8.ofNat s::t)(p:l.length=n)(m:n<=1000):
 Calls prog 237 #[S l, .int .i64 n, .int .u8 c.toNat] w λe b=>e= .returned (.int .i64 0)/\w=b:=by
 have g:∀W:World,Calls prog 218 #[.int .i64 1] W λe b=>e= .returned (.bool true)/\W=b:=λW=>vQ W 1 (Or.inl rfl);have h:∀W:World,Calls prog 218 #[.int .i64 2] W λe b=>e= .returned (.bool true)/\W=b:=λW=>vQ W 2 (Or.inr rfl);have z:2<=l.length:=by rw[d];simp
 have j:(ByteArray.mk l.toArray)[0]'(by simp[ByteArray.size];omega)=c:=by subst d;rfl
 have k:(ByteArray.mk l.toArray)[1]'(by simp[ByteArray.size];omega)=UInt8.ofNat s:=by subst d;rfl
 have c1:((UInt8.ofNat s).toNat:Int)=(s:Int):=by rcases f with rfl|rfl<;>rfl
 have r:(0:Int)<(l.length:Int):=pm
 have u:(1:Int)<(l.length:Int):=pm
 have C:¬(l.length:Int)<(n:Int):=pm
 have I:¬(n:Int)<(l.length:Int):=pm
 clear d;unfold S;rcases f with rfl|rfl;all_goals
  go_enter func237,ntmps237;go_wp2_with fail
  (first|(with_reducible refine (g _).mono ?_)|(with_reducible refine (h _).mono ?_))
  rintro e J ⟨rfl,rfl⟩;go_wp2;go_ret;exact ⟨rfl,rfl⟩
def Wl w (l:Lb)(c:UInt8)(n:Nat)(f:l.length<n)(d:n<=1000):
 Calls prog 237 #[S l, .int .i64 n, .int .u8 c.toNat] w λe b=>e= .returned (.int .i64 4)/\w=b:=by
 have g:(l.length:Int)<(n:Int):=pm
 unfold S;go_enter func237,ntmps237;go_wp2;go_ret;exact ⟨rfl,rfl⟩
def Wk w (l:Lb)(c:UInt8)(n:Nat)(g:n<l.length)(f:l.length<=9223372036854775807)(d:n<=1000):
 Calls prog 237 #[S l, .int .i64 n, .int .u8 c.toNat] w λe b=>e= .returned (.int .i64 5)/\w=b:=by
 have h:¬(l.length:Int)<(n:Int):=pm
 have j:(n:Int)<(l.length:Int):=pm
 unfold S;go_enter func237,ntmps237;go_wp2;go_ret;exact ⟨rfl,rfl⟩
def nT(s n:Int):Bool:=decide (0<=s)&&decide (s<=1099511627776)&&decide (0<=n)&&decide (n<=999999999)
def QK w (s n:Int):Calls prog 266 #[.agg #[.int .i64 s, .int .i64 n]] w λe d=>e= .returned (.bool (nT s n))/\w.grownBy d none:=by
 have c:∃b,b=nT s n:=⟨_,rfl⟩;obtain ⟨b,c⟩:=c;have HB:=Hq c;rw[<-c];clear c;go_enter func266,ntmps266;go_wp2;all_goals
  go_ret;refine ⟨Qd ?_,aF (ak _ _) _⟩;rw[HB.out];unfold nT;first|rfl|(simp[*];done)|(simp[*];omega)
def rN(s n:Int):Lb:=bo (4611686018427387904+s.toNat) 8++bo n.toNat 4
def aaL w (s n:Int)(h:nT s n=true):Calls prog 217 #[.agg #[.int .i64 s, .int .i64 n]] w λe w'=>e= .returned (.tuple #[S (rN s n), .int .i64 0])/\w.grownBy w' none:=by
 have U:0<=s/\s<=1099511627776/\0<=n/\n<=999999999:=by unfold nT at h;simp at h;omega
 obtain ⟨s0,s1,n0,n1⟩:=U;have k:=Hq h;clear h;go_enter func217,ntmps217;go_wp2_with fail;refine ax (QK _ s n) λx1 d=>?_;rw[k.out];go_wp2_with fail;have u:=d.size;have a0:x1.cell? ⟨w.heap.size,0,none⟩=some (.int .i64 s):=by rw[Bs (d.block w.heap.size pu pu)];rw[cK (aO w _)];rfl
 have a1:x1.cell? ⟨w.heap.size,1,none⟩=some (.int .i64 n):=by rw[Bs (d.block w.heap.size pu pu)];rw[cK (aO w _)];rfl
 obtain ⟨c,rfl⟩:=Bo s0;obtain ⟨b,rfl⟩:=Bo n0;have g:∃N:Nat,N=4611686018427387904+c:=⟨_,rfl⟩;obtain ⟨N,g⟩:=g;have e1:IntKind.u64.wrap (c:Int)=(c:Int):=dE _ pm;have e2:IntKind.u64.wrap (4611686018427387904+(c:Int))=(N:Int):=by rw[dE _ pm];omega
 have e3:IntKind.u64.wrap (b:Int)=(b:Int):=dE _ pm;have R:N<18446744073709551616:=pm
 have r:rN (c:Int) (b:Int)=bo N 8++bo b 4:=by unfold rN;rw[g];rfl
 have I:=Hq r;have a2:=ai (aT w _ none) d;clear g k r d;have m:w.heap.size+1<=x1.heap.size:=by simpa using u
 generalize p:w.heap.size+1=base at*;have j:w.heap.size<base:=pm
 have Hb:=Hq p;clear p u;have z:∀W:World,base<=W.heap.size->Calls prog 70 #[.slice none 0 0, .int .u64 N, .int .i64 8] W (mH W base (bo N 8)):=
  λW h=>pC W base (.slice none 0 0) [] N 8 (mO _ _) R pm pm pu h
 have C:∀(W:World) (v:Value),dq W base v (bo N 8)->base<=W.heap.size->Calls prog 70 #[v, .int .u64 b, .int .i64 4] W (mH W base (bo N 8++bo b 4)):=
  λW v J h=>pC W base v (bo N 8) b 4 J pm pm pm (by rw[fw];omega) h
 go_region_with
  (first
   |(go_at_call 70;(with_reducible refine (z _ ?_).mono ?_);(exact m);rintro e x2 ⟨v2,rfl,a3,f⟩;have k0:x2.cell? ⟨w.heap.size,0,none⟩=some (.int .i64 c):=(f.cell j).trans a0;have k1:x2.cell? ⟨w.heap.size,1,none⟩=some (.int .i64 b):=(f.cell j).trans a1;have a5:=f.size)
   |(go_at_call 70;(with_reducible refine (C _ _ ?_ ?_).mono ?_);(exact a3);(exact bJ m a5);rintro e x3 ⟨v3,rfl,a4,P⟩;have a6:=jL a4))
 all_goals
  go_wp2;go_ret2;refine ⟨?_,?_⟩
  ·rw[I.out];rfl
  exact iU (((ql a2 w.heap.size (bm _) pu).drew.trans (Below.mono f (pO j))).trans (Below.mono P (pO j)))
end
section
section
variable{n:Nat} [NeZero n]
end
instance:NeZero PP:=⟨Nat.pos_iff_ne_zero.1 Fp⟩
end
section
open Go.RowKit
def abP:Lib.trimB (aP 0 32) 0=[]:=ut
def Uk w (k u:Lb)(g:k.length=32)(j:u.length=32)(h0:cS k u=aP 0 32):Calls prog 54 #[S k,S u] w (Grown (.tuple #[S [], .int .i64 12]) w):=by
 have b:∀W:World,Calls prog 61 #[S k,S u] W (Grown (.tuple #[S (aP 0 32), .int .i64 0]) W):=λW=>by have:=Gg W k u g j;rwa[h0]at this
 have c:∀W:World,Calls prog 90 #[S (aP 0 32), .string ⟨#[0]⟩] W (Grown (S []) W):=λW=>by
  refine ax (Tryz.strings_Trim_one ⟨(aP 0 32).toArray⟩ 0 ut W ut) λy h=>?_;refine ⟨?_,?_⟩
  ·show _=Ending.returned (.string ⟨(([]:Lb)).toArray⟩);rw[<-abP]
  rcases h with rfl|rfl
  ·exact ak _ _
  exact aM (ak _ _)
 generalize aP 0 32=Z at*;unfold S at*;go_enter func54,ntmps54;go_wp2_with fail;refine ax (b _) λx1 d=>?_;go_wp2_with fail;refine ax (c _) λx2 f=>?_;go_wp2;go_ret2;exact ⟨rfl,ai d f⟩
def qF:Value:= .agg #[.int .i64 0, .int .u32 0, .string ⟨#[]⟩, .int .i64 0, .int .i64 0, .int .i64 0]
def Da w (c:Int):Calls prog 236 #[.int .i64 c] w (Grown (.tuple #[qF, .pointer none, .int .i64 c]) w):=by unfold qF;go_enter func236,ntmps236;go_wp2_with fail;go_returns;exact ⟨rfl,by repeat(first|exact ak _ _|apply aM|apply cj _ _ pu|apply aF)⟩
def Wn w (own l:Lb)(J:own.length=32)(c:Int)(hc:(c !=0)=true)(F:∀W:World,Calls prog 237 #[S l, .int .i64 115, .int .u8 1] W λe m=>e= .returned (.int .i64 c)/\W=m):
 Calls prog 177 #[S own,S l] w (Grown (.tuple #[qF, .pointer none, .int .i64 c]) w):=by
 have p:∀W:World,Calls prog 219 #[.slice (some ⟨W.heap.size,0,none⟩) 1 1] (W.alloc (.cells #[S own] 9)) (λe m=>e= .returned (.bool true)/\(W.alloc (.cells #[S own] 9))=m):=λW=>
  CR _ W.heap.size 1 [own] rfl pm (λi hi=>by
   rw[cK (aO W _)];have U:i=0:=by simp at hi;omega
   rcases U with rfl;rfl) (λx P=>by
   simp only[bp,dD,dH]at P;rcases P with rfl;exact J)
 have r:=λW:World=>Da W c;have j:=p (w.alloc (.cells #[.int .i64 0, .int .u32 0, .string ⟨#[]⟩, .int .i64 0, .int .i64 0, .int .i64 0] 260));rw[World.size_alloc]at j;have h:ab (w.alloc (.cells #[.int .i64 0, .int .u32 0, .string ⟨#[]⟩, .int .i64 0, .int .i64 0, .int .i64 0] 260)) w.heap.size 260 [.int .i64 0, .int .u32 0, .string ⟨#[]⟩, .int .i64 0, .int .i64 0, .int .i64 0]:=ab.new w _ _;have s:=Hq (aT w (.cells #[.int .i64 0, .int .u32 0, .string ⟨#[]⟩, .int .i64 0, .int .i64 0, .int .i64 0] 260) none);have h:=Hq h;unfold Grown qF at*;unfold S at*;clear p J;go_enter func177,ntmps177;go_wp2_with fail;refine ax j λy1 I=>?_;have k:(w.alloc (.cells #[.int .i64 0, .int .u32 0, .string ⟨#[]⟩, .int .i64 0, .int .i64 0, .int .i64 0] 260)).grownBy y1 none:=by rw[<-I];exact aT _ _ none
 have C:=Hq (h.out.kept k pu);have u:=Hq (ai s.out k);clear I k h s j;go_wp2_with fail;refine (F _).mono ?_;rintro e z ⟨rfl,rfl⟩;go_wp2_with fail;refine ax (r _) λf g2=>?_;have d:=C.out.kept g2 pu;have z0:f.cell? ⟨w.heap.size,0,none⟩=some (.int .i64 0):=ab.cell d 0;have z1:f.cell? ⟨w.heap.size,1,none⟩=some (.int .u32 0):=ab.cell d 1;have z2:f.cell? ⟨w.heap.size,2,none⟩=some (.string ⟨#[]⟩):=ab.cell d 2;have z3:f.cell? ⟨w.heap.size,3,none⟩=some (.int .i64 0):=ab.cell d 3;have z4:f.cell? ⟨w.heap.size,4,none⟩=some (.int .i64 0):=ab.cell d 4;have z5:f.cell? ⟨w.heap.size,5,none⟩=some (.int .i64 0):=ab.cell d 5;have q0:=ab.frozen d 0;have q1:=ab.frozen d 1;have q2:=ab.frozen d 2;have q3:=ab.frozen d 3;have q4:=ab.frozen d 4;have q5:=ab.frozen d 5;have R:=Hq (ai u.out g2);have HB:=Hq d;clear d g2 C u r F;go_wp2_with fail;have g:=aw (aw (aw (aw (aw (aw (ak f (some w.heap.size)) 0 (.int .i64 0)) 1 (.int .u32 0)) 2 (.string ⟨#[]⟩)) 3 (.int .i64 0)) 4 (.int .i64 0)) 5 (.int .i64 0);have b:=(((((HB.out.set 0 (.int .i64 0)).set 1 (.int .u32 0)).set 2 (.string ⟨#[]⟩)).set 3 (.int .i64 0)).set 4 (.int .i64 0)).set 5 (.int .i64 0);have t0:=ab.cell b 0;have t1:=ab.cell b 1;have t2:=ab.cell b 2;have t3:=ab.cell b 3;have t4:=ab.cell b 4;have t5:=ab.cell b 5
 refine bodyPost_ret (v:= .tuple #[.agg #[.int .i64 0, .int .u32 0, .string ⟨#[]⟩, .int .i64 0, .int .i64 0, .int .i64 0], .pointer none, .int .i64 c]) (by simp[results,results177,go_sem,t0,t1,t2,t3,t4,t5]) rfl ?_;exact ⟨rfl,cJ R.out g (bm _)⟩
def kF(l:Lb):Lb:=(l.drop (l.length-32)).take 16
def mU(l:Lb):Lb:=[3,0]++(l.drop 2).take 4
def OC (l:Lb)(h:32<=l.length):(kF l).length=16:=by unfold kF;rw[aJ,aR];omega
def NK (l:Lb)(h:6<=l.length):(mU l).length=6:=by unfold mU;rw[aK,aJ,aR];simp;omega
def Lx w (l:Lb)(h:32<=l.length)(j:l.length<=9223372036854775807):Calls prog 232 #[S l] w λe d=>e= .returned (S (kF l))/\w=d:=by
 obtain ⟨n,c⟩:=kq (l.length-32);obtain ⟨m,hm⟩:=kq (l.length-16);have b:kF l=(l.drop n).take (m-n):=by unfold kF;rw[<-c,show m-n=16from pm]
 rw[b];have f:(l.length:Int)-32=(n:Int):=pm
 have g:(l.length:Int)-16=(m:Int):=pm
 have k:(n:Int)<=(m:Int):=pm
 have p:(m:Int)<=(l.length:Int):=pm
 have r:n<=m:=pm
 have s:m<=l.length:=pm
 have u:=dP;clear b c hm;unfold S;go_enter func232,ntmps232;go_wp2;go_ret;exact ⟨rfl,rfl⟩
def Gf w (l:Lb)(h:6<=l.length)(j:l.length<=9223372036854775807):Calls prog 233 #[S l] w (Grown (S (mU l)) w):=by
 have m:=eD;have p:=dP;have k:(6:Int)<=(l.length:Int):=pm
 have b:mU l=[3,0]++(l.drop 2).take 4:=rfl;have lt:((l.drop 2).take 4).length=4:=by rw[aJ,aR];omega
 rw[b];clear b;have c:∀W:World,(convert 83 9 (.slice (some ⟨W.heap.size,0,none⟩) 2 2)).run prog (W.alloc (.cells #[.int .u8 3, .int .u8 0] 5)).drew= .ok (.string ⟨#[3,0]⟩) (W.alloc (.cells #[.int .u8 3, .int .u8 0] 5)).drew:=λW=>by
  have h:gM (W.alloc (.cells #[.int .u8 3, .int .u8 0] 5)).drew W.heap.size [3,0]:=λi d=>by
   have f:i<2:=d;refine ⟨?_,nV (ym W _) i⟩;rw[cK (ym W _)]
   match i,f with
   |0,_=>rfl
   |1,_=>rfl
  exact nJ h 2
 have g:=c w;clear c;unfold S;go_enter func233,ntmps233;go_wp2_with fail;go_region;all_goals
  go_wp2;go_ret;exact ⟨rfl,aM (aT _ _ _)⟩
end
end Go.Proofs.YtmomfbkpniblgaaGreatDoor
