/- A part of this claim's proof. -/
import Derived.Test.YtmomfbkpniblgaaGreatDoorYj11
import Derived.Test.YtmomfbkpniblgaaGreatDoorYj13
import Derived.Lib.LazyBuf
import Derived.Deep.RegionWith
import Derived.Great.Walk
import Derived.StillTailTactics
import Derived.Deep.DeepCutAuto
import Derived.Deep.CutBlock
import Derived.Deep.Cut
import Derived.Laws.Cover3
set_option linter.all false
set_option maxHeartbeats 2000000
set_option maxRecDepth 100000
namespace Go.Proofs.YtmomfbkpniblgaaGreatDoor
open Go.Proofs.Tryz
variable {W l:Lb}{B C T i n:Nat}{w w':World}
section
def acT s:cH s []=[]:=by cases s<;>rfl
def Rv (s:Lb):cH [] s=[]:=by cases s<;>rfl
def Ru:∀(b s r:Lb),cH s (b++r)=cH s b++cH (s.drop b.length) r
 |[],s,r=>by simp[acT]
 |c::b,[],r=>by simp[Rv]
 |c::b,d::s,r=>by have:=Ru b s r;simp only[cH,pL,List.zipWith_cons_cons,eI,EX]at this⊢;rw[this]
def dL(c:UInt8):UInt8:=UInt8.ofNat (gg c.toNat)
def ru(a c:UInt8):UInt8:=UInt8.ofNat (rs a.toNat c.toNat)
def abM (c:UInt8):(dL c).toNat=gg c.toNat:=by unfold dL;rw[uZ,BN (Dy (iO c))]
def QW (a c:UInt8):(ru a c).toNat=rs a.toNat c.toNat:=by unfold ru;rw[uZ,BN (zY (iO a) _)]
def kY(n i:Nat)(p:UInt8)(t:Lb):Lb:=
 if i%n=0then [dL (t.getD 1 0)^^^p,dL (t.getD 2 0),dL (t.getD 3 0),dL (t.getD 0 0)]
 else if n=8/\i%n=4then t.map dL else t
def sP(n i:Nat)(p:UInt8)(l:Lb):Lb:=l++cH ((l.drop (4*(i-n))).take 4) (kY n i p (l.drop (l.length-4)))
def wB(n i:Nat)(p:UInt8):UInt8:=if i%n=0then ru p 2 else p
def uk(n:Nat):Nat->Nat->UInt8->Lb->Lb
 |0,_,_,l=>l
 |f+1,i,p,l=>uk n f (i+1) (wB n i p) (sP n i p l)
def oW(key:Lb):Lb:=uk (key.length/4) (3*(key.length/4)+28) (key.length/4) 1 key
def Ol (n i:Nat)(p:UInt8)(t:Lb)(h:t.length=4):(kY n i p t).length=4:=by
 unfold kY;split
 ·rfl
 split
 ·simpa using h
 exact h
def MT (n i:Nat)(p:UInt8)(l:Lb)(c:1<=n)(a:n<=i)(b:l.length=4*i):(sP n i p l).length=4*(i+1):=by unfold sP;rw[aK,oq,Ol _ _ _ _ (by rw[aR];omega),aJ,aR];omega
def MQ (n:Nat)(b:1<=n):∀(f i:Nat) (p:UInt8) (l:Lb),n<=i->l.length=4*i->(uk n f i p l).length=4*(i+f)/\∃r,uk n f i p l=l++r
 |0,i,p,l,_,a=>⟨a,[],by rw[ev];rfl⟩
 |f+1,i,p,l,e,a=>by obtain ⟨c,r,d⟩:=MQ n b f (i+1) (wB n i p) (sP n i p l) pm (MT n i p l b e a);refine ⟨by rw[uk,c];omega,cH ((l.drop (4*(i-n))).take 4) (kY n i p (l.drop (l.length-4)))++r,?_⟩;rw[uk,d,sP,dM]
def MR (key:Lb)(c:key.length=16\/key.length=32):(oW key).length=16*(key.length/4+7)/\∃r,oW key=key++r:=by obtain ⟨a,b⟩:=MQ (key.length/4) pm (3*(key.length/4)+28) (key.length/4) 1 key (bm _) pm;exact ⟨by unfold oW;rw[a];omega,b⟩
def qz(t:Nat)(b:Lb):Lb:=(List.range 16).map λi=>b.getD (i%4+4*((i/4+t*(i%4))%4)) 0
def mQ(y:Lb)(b:Lb)(i:Nat):Nat->UInt8
 |0=>0
 |k+1=>mQ y b i k^^^ru (y.getD ((k+4-i%4)%4) 0) (b.getD (4*(i/4)+k) 0)
def sJ(y:Lb)(b:Lb):Lb:=(List.range 16).map λi=>mQ y b i 4
def uK (t:Nat) b:(qz t b).length=16:=by simp[qz]
def vS y b:(sJ y b).length=16:=by simp[sJ]
instance:Std.Commutative (α:=UInt8) (·^^^·):=⟨λx y=>by apply tJ.1;rw[xj,xj,Nat.xor_comm]⟩
instance:Std.Associative (α:=UInt8) (·^^^·):=⟨λx y z=>by apply tJ.1;simp only[xj];rw[Nat.xor_assoc]⟩
def zS(W:Lb)(r:Nat)(s:Lb):Lb:=
 cH (if 16<W.length-16*(r+1)then sJ [2,3,1,1] (qz 1 (s.map dL))else qz 1 (s.map dL)) (W.drop (16*(r+1)))
def mR(W:Lb):Nat->Lb->Lb
 |0,b=>cH b W
 |r+1,b=>zS W r (mR W r b)
def Xg (W:Lb)(r:Nat) s (a:16*(r+2)<=W.length):(zS W r s).length=16:=by unfold zS;rw[oq,aR];split<;>first|(rw[vS];omega)|(rw[uK];omega)
def GO (W:Lb)(b:Lb)(a:b.length=16):∀r,16*(r+1)<=W.length->(mR W r b).length=16
 |0,h=>by rw[mR,oq];omega
 |r+1,h=>by rw[mR];exact Xg _ _ _ h
def nK(key a:Lb):Lb:=mR (oW key) (key.length/4+6) a
def ML (key a:Lb)(b:key.length=16\/key.length=32)(c:a.length=16):(nK key a).length=16:=GO _ _ c _ (by rw[(MR key b).1];omega)
end
section
open Go.RowKit
def uy(h l s:Lb):Lb:=
 bo (qj (aV h) (qj (aV h) (qj (aV h) 0 l) s) (bo (l.length*8) 8++bo (s.length*8) 8)) 16
def NZ h l s:(uy h l s).length=16:=fw _ _
def UY w (h l s:Lb)(j:h.length=16)(hl:l.length<=140737488355328)(hs:s.length<=140737488355328):
 Calls prog 208 #[S h,S l,S s] w λe w'=>e= .returned (.tuple #[S (uy h l s), .int .i64 0])/\w.grownBy w' none:=by
 have q1:((h.length:Int) !=16)=false:=pp
 obtain ⟨B,t⟩:=kq w.heap.size;obtain ⟨x,k⟩:=kq ((w.alloc (.cells #[S h] 9)).alloc (.cells (g2 0).toArray 341));have s1:(w.alloc (.cells #[S h] 9)).heap.size=B+1:=by rw[t];simp
 have bH:x.cell? ⟨B,0,none⟩=some (S h):=by rw[k,t,cK (cG (aO w _))];rfl
 have bY:ab x (B+1) 341 (g2 0):=by rw[k,<-s1];exact aO _ _
 have c2:w.grownBy x none:=by rw[k];exact aF (aF (ak w none) _) _
 have a4:w.heap.size<=B+1:=pm
 obtain ⟨m,P⟩:∃y,y=qj (aV h) 0 l:=⟨_,rfl⟩;obtain ⟨o,R⟩:∃y,y=qj (aV h) m s:=⟨_,rfl⟩;obtain ⟨q,I⟩:∃e,e=bo (l.length*8) 8++bo (s.length*8) 8:=⟨_,rfl⟩;obtain ⟨d,U⟩:∃y,y=qj (aV h) o q:=⟨_,rfl⟩;have J:=CE h j;have l1:m<2^128:=by rw[P];exact Hk J ut _
 have l2:o<2^128:=by rw[R];exact Hk J l1 _
 have l3:d<2^128:=by rw[U];exact Hk J l2 _
 have hV:uy h l s=bo d 16:=by rw[U,I,R,P];rfl
 rw[hV];clear hV;have T1:∀W:World,ab W (B+1) 341 (g2 0)->W.cell? ⟨B,0,none⟩=some (S h)->Calls prog 257 #[S l, .pointer (some ⟨B+1,0,none⟩), .pointer (some ⟨B,0,none⟩)] W λe w'=>e= .returned (.tuple #[])/\ab w' (B+1) 341 (g2 m)/\W.grownBy w' (some (B+1)):=λW f g=>by have:=Gj W (B+1) B 0 h l f g pm ut j hl;rwa[<-P]at this
 have T2:∀W:World,ab W (B+1) 341 (g2 m)->W.cell? ⟨B,0,none⟩=some (S h)->Calls prog 257 #[S s, .pointer (some ⟨B+1,0,none⟩), .pointer (some ⟨B,0,none⟩)] W λe w'=>e= .returned (.tuple #[])/\ab w' (B+1) 341 (g2 o)/\W.grownBy w' (some (B+1)):=λW f g=>by have:=Gj W (B+1) B m h s f g pm l1 j hs;rwa[<-R]at this
 have T3:∀W:World,ab W (B+1) 341 (g2 o)->W.cell? ⟨B,0,none⟩=some (S h)->Calls prog 257 #[S q, .pointer (some ⟨B+1,0,none⟩), .pointer (some ⟨B,0,none⟩)] W λe w'=>e= .returned (.tuple #[])/\ab w' (B+1) 341 (g2 d)/\W.grownBy w' (some (B+1)):=λW f g=>by have:=Gj W (B+1) B o h q f g pm l2 j (by rw[I,aK,fw,fw];omega);rwa[<-U]at this
 have A4:∀W:World,Calls prog 261 #[G2 d] W (Grown (S (bo d 16)) W):=λW=>Ve W _ l3;generalize bo d 16=V at*;obtain ⟨c,c3⟩:∃n,n=l.length*8:=⟨_,rfl⟩;obtain ⟨n2,a7⟩:∃n,n=s.length*8:=⟨_,rfl⟩;have a8:∀W:World,Calls prog 70 #[.slice none 0 0, .int .u64 c, .int .i64 8] W (mH W W.heap.size (bo c 8)):=λW=>by have:=pC W W.heap.size (.slice none 0 0) [] c 8 (mO _ _) pm pm pm pu (bm _);exact this
 have a9:∀(W:World) (b:Nat) (v:Value),dq W b v (bo c 8)->b<=W.heap.size->Calls prog 70 #[v, .int .u64 n2, .int .i64 8] W (mH W b q):=λW b v k1 k2=>by have:=pC W b v (bo c 8) n2 8 k1 pm pm pm (by rw[fw];omega) k2;rw[show(8:Int).toNat=8from rfl,c3,a7,<-I]at this;rw[a7];exact this
 have u1:IntKind.u64.wrap (IntKind.u64.wrap (l.length:Int)*8)=(c:Int):=by rw[oz,oz];omega
 have u2:IntKind.u64.wrap (IntKind.u64.wrap (s.length:Int)*8)=(n2:Int):=by rw[oz,oz];omega
 have u3:(l.length:Int)*8=(c:Int):=pm
 have u4:(s.length:Int)*8=(n2:Int):=pm
 have HX:=Hq k;have HB:=Hq t;have a2:=Hq bH;have b6:=Hq bY;have HG:=Hq c2;clear k t s1 bH bY c2 P R U I c3 a7 j l1 l2 l3 J;unfold S G2 at*;go_enter func208,ntmps208;go_upto_region 5with(fail);rw[<-HB.out];have z:=HX.out;unfold g2 at z;simp only[show dB 0=0from rfl,show db 0=0from rfl,show((0:Nat):Int)=0from rfl]at z;rw[<-z];clear z HX;go_wp2_with fail;refine (T1 _ b6.out a2.out).mono ?_;rintro e w1 ⟨rfl,b8,a5⟩;have b4:=Hq b8;have a0:=Hq (a5.cell (a:=⟨B,0,none⟩) a2.out pu);have a':=Hq (cJ HG.out a5 a4);clear b8 a5 T1 b6 a2 HG;go_wp2_with fail;refine (T2 _ b4.out a0.out).mono ?_;rintro e w2 ⟨rfl,b9,a6⟩;have a1:=Hq b9;have b2:=Hq (a6.cell (a:=⟨B,0,none⟩) a0.out pu);have b0:=Hq (cJ a'.out a6 a4);clear b9 a6 T2 b4 a0 a';go_wp2_with fail;refine (a8 _).mono ?_;rintro e w3 ⟨v3,rfl,c4,a3⟩;go_wp2_with fail;refine (a9 _ _ _ c4 a3.size).mono ?_;rintro e w4 ⟨v4,rfl,c5,b7⟩;have c0:=jL c5;have u:=a3.trans b7;have b5:=Hq (ab.kept a1.out (iU (r:=none) u) nofun);have b3:=Hq ((u.cell (p:=⟨B,0,none⟩) (by have:=a1.out.lt;show B<_;omega)).trans b2.out);have b1:=Hq (ai b0.out (iU (r:=none) u));clear c4 c5 a3 b7 u a8 a9 a1 b2 b0;unfold S at c0;go_wp2_with fail;refine (T3 _ b5.out b3.out).mono ?_;rintro e w5 ⟨rfl,b',c1⟩;have c6:=Hq (cJ b1.out c1 a4);obtain ⟨⟨k0,k1⟩,_⟩:=oP b'
 clear c0 b' c1 T3 b5 b3 b1;go_wp2_with fail;refine ax (A4 _) λw6 c7=>?_;go_wp2;go_ret2;exact ⟨rfl,ai c6.out c7⟩
def fG(key a:Lb)(n:Nat):Lb:=nK key (a++bo n 4)
def zV (key a:Lb)(n:Nat)(b:key.length=32)(c:a.length=12):(fG key a n).length=16:=
 ML key _ (Or.inr b) (by rw[aK,fw,c])
def rq(key a:Lb):Nat->Nat->Lb->Lb
 |0,_,_=>[]
 |f+1,n,s=>if s=[]then []else cH s (fG key a n)++rq key a f (n+1) (s.drop 16)
def jN(key a:Lb)(s:Lb):Lb:=rq key a (s.length+1) 2 s
def XO key nonce (f n:Nat):rq key nonce f n []=[]:=by cases f<;>simp[rq]
def Ab(key a:Lb):Nat->Nat->Lb
 |0,_=>[]
 |f+1,n=>fG key a n++Ab key a f (n+1)
def NI (key a:Lb)(b:key.length=32)(c:a.length=12):∀(f n:Nat),(Ab key a f n).length=16*f
 |0,_=>rfl
 |f+1,n=>by rw[Ab,aK,zV _ _ _ b c,NI key a b c f];omega
def Nr (key a:Lb)(b:key.length=32)(c:a.length=12):∀(f n:Nat) (s:Lb),s.length<=16*f->rq key a f n s=cH s (Ab key a f n)
 |0,n,s,h=>by obtain rfl:s=[]:=pG pm;rfl
 |f+1,n,s,h=>by
  unfold rq;by_cases e:s=[]
  ·subst e;simp[Rv]
  rw[au e,Ab,Ru,zV _ _ _ b c,Nr key a b c f _ _ (by rw[aR];omega)]
def Hf (key a s:Lb)(b:key.length=32)(c:a.length=12):(jN key a s).length=s.length:=by unfold jN;rw[Nr key a b c _ _ _ pm,oq,NI _ _ b c];omega
def jO(key a more s:Lb):Lb:=cH (uy (nK key (cI 16)) more s) (fG key a 1)
def Dz (key a more s:Lb)(b:key.length=32)(c:a.length=12):(jO key a more s).length=16:=by unfold jO;rw[oq,NZ,zV _ _ _ b c];rfl
def xY(key a more b:Lb):Lb:=jN key a b++jO key a more (jN key a b)
def XZ (key c more d:Lb)(a:key.length=32)(b:c.length=12):(xY key c more d).length=d.length+16:=by unfold xY;rw[aK,Dz _ _ _ _ a b,Hf _ _ _ a b]
def XP (s b:Lb)(a:b.length=16):s.drop (cH s b).length=s.drop 16:=by
 rw[oq,a];rcases eR s.length 16with h|h
 ·rw[iF pm,tI,iP pm]
 rw[xf h]
def mI(w:World)(T i:Nat):Prop:=∃c:Array Value,w.heap[T]?=some (.cells c 230 (0,0))/\c.size=512/\∀j,j<i->c[j]?=some (.int .u8 (gg j:Nat))/\c[256+gg j]?=some (.int .u8 (j:Nat))
def mI.lt (h:mI w T i):T<w.heap.size:=by obtain ⟨c,a,_⟩:=h;exact kE a
def mI.there (h:mI w T i)(o:Nat)(d:o<512):∃v,w.cell? ⟨T,o,none⟩=some v/\w.frozen? ⟨T,o,none⟩=false:=by obtain ⟨c,a,b,_⟩:=h;refine ⟨c[o],?_,nV a o⟩;rw[cK a];simp[b,d]
def mI.step (h:mI w T i)(b:i<256):mI ((w.setCell ⟨T,i,none⟩ (.int .u8 (gg i:Nat))).setCell ⟨T,256+gg i,none⟩ (.int .u8 (i:Nat))) T (i+1):=by
 obtain ⟨c,f,g,k⟩:=h;have r:=Dy b;refine ⟨_,jQ (jQ f _ _) _ _,by simp[g],λj o=>?_⟩;have d:j<256:=pm
 have m:=Dy d;by_cases e:j=i
 ·subst e;constructor
  ·rw[qH pm,JX];simp;omega
  rw[JX];simp;omega
 have a:=k j pm;have p:gg i≠gg j:=λq=>e ((Ya b d).1 q).symm;constructor
 ·rw[qH pm,qH pm];exact a.1
 rw[qH pm,qH pm];exact a.2
def jZ(w:World)(T:Nat):Prop:=mI w T 256
def jZ.kept {r:Option Nat}(h:jZ w T)(g:w.grownBy w' r)(d:some T≠r):jZ w' T:=by obtain ⟨c,a,b⟩:=h;exact ⟨c,rv g a d,b⟩
def jZ.sub (h:jZ w T)(c:UInt8):w.cell? ⟨T,c.toNat,none⟩=some (.int .u8 ((dL c).toNat)):=by obtain ⟨d,a,e,b⟩:=h;rw[cK a,(b _ (iO c)).1,abM]
def Made(w:World)(e:Ending)(w':World):Prop:=∃T,e= .returned (.pointer (some ⟨T,0,none⟩))/\w.heap.size<=T/\jZ w' T/\w.grownBy w' none
def Vp w:Calls prog 200 #[] w (Made w):=by
 go_enter func200,ntmps200;go_upto_region 2with(fail);have q:mI (w.alloc (Obj.cells zeroCells230 230)) w.heap.size 0:=⟨zeroCells230,aO w _,qr,λj d=>absurd d pm⟩;have o:w.grownBy (w.alloc (Obj.cells zeroCells230 230)) none:=aF (ak w _) _;have h:=Hq q;have t:=Hq o;clear q o;obtain ⟨T,k⟩:=kq w.heap.size;have m:w.heap.size<=T:=pm
 rw[<-k]at h⊢;clear k;generalize w.alloc (Obj.cells zeroCells230 230)=x at*;go_wp2_with fail;go_loopw [6] (λg wr=>∃i:Nat,i<=256/\g= .int .i64 i/\mI wr T i/\x.grownBy wr (some T)) (λg _=>256-(intOf g).toNat)
 case atStart=>exact ⟨0,pm,rfl,h.out,ak _ _⟩
 case round=>
  obtain ⟨i,U,rfl,a,b⟩:=hrel;by_cases f:i<256
  ·have a0:=Dy f;obtain ⟨v1,c1,J⟩:=a.there i pm;obtain ⟨v2,I,P⟩:=mI.there (i:=0) (w:=wr.setCell ⟨T,i,none⟩ (.int .u8 (gg i:Nat))) (T:=T) (by obtain ⟨c,u,v,_⟩:=a;exact ⟨_,jQ u _ _,by simpa using v,λj d=>absurd d pm⟩) (256+gg i) pm;have p:=Hq (And.intro (a.step f) (aw (aw b i (.int .u8 (gg i:Nat))) (256+gg i) (.int .u8 (i:Nat))));have R:(i:Int)%256=(i:Int):=pm;have r:∀W:World,Calls prog 253 #[.int .u8 i] W λe w'=>e= .returned (.int .u8 (gg i))/\W=w':=λW=>XN i W f;clear a b;generalize gg i=s at*;have y:(0:Int)<=(s:Int):=pm;have z:(s:Int)<256:=pm;go_wp2_with fail;refine (r _).mono ?_;rintro e w' ⟨rfl,rfl⟩;go_wp2_with fail;go_region;go_wp2;go_roundw
   case rel=>exact ⟨i+1,pm,by go_num,p.out.1,aM p.out.2⟩
   case measure=>simp[intOf];omega
  obtain rfl:i=256:=pm
  go_wp2;go_ret;exact ⟨T,rfl,m,a,cJ t.out b m⟩
def BB(w:World)(B:Nat)(l:Lb):Prop:=ab w B 225 (l.map aS)
def BB.cell (h:BB w B l)(i:Nat)(a:i<l.length):w.cell? ⟨B,i,none⟩=some (.int .u8 (l[i].toNat)):=by rw[ab.cell h];simp[aS,a]
def BB.zG (h:BB w B l):gM w B l:=λi a=>⟨h.cell i a,ab.frozen h i⟩
def acb:(prog.info? 5).map (·.size)=some 1:=qr
def ace (w:World):(Go.sizeOf 5).run prog w= .ok 1 w:=by
 have h:=acb;cases hq:prog.info? 5with
 |none=>rw[hq]at h;simp at h
 |some i=>
  rw[hq]at h;have a:i.size=1:=by simpa using h
  simp[sizeOf,typeInfo,hq,a]
def Ga w (B:Nat)(l s:Lb)(c:BB w B l)(d:l.length=16)(z:16<=s.length)(v:s.length<=140737488355328):
 Calls prog 150 #[.pointer (some ⟨B,0,none⟩),S s] w λe w'=>e= .returned (.tuple #[])/\BB w' B (cH l s)/\w.grownBy w' (some B):=by
 have m:∀W:World,Calls prog 202 #[S l,S s] W (vF (S (cH l s)) W):=λW=>EF W l s pm v;have q:(convert 83 9 (.slice (some ⟨B,0,none⟩) 16 16)).run prog w= .ok (S l) w:=by have:=nJ c.zG 16;rw[d]at this;exact this
 have o:(convert 83 9 (.slice (some ⟨B,0,none⟩) 16 16)).run prog w.drew= .ok (S l) w.drew:=by have:=nJ (w:=w.drew) (b:=B) (l:=l) c.zG 16;rw[d]at this;exact this
 have k:(cH l s).length=16:=by rw[oq];omega
 have HB:=Hq c;have t:∀W:World,w.grownBy W none->BB (W.setCells B 0 ((cH l s).map aS)) B (cH l s):=λW a=>ab.store (ab.kept HB.out a pu) _ (by simp[k,d]);generalize cH l s=X at*;clear c;have f:∀W:World,w.grownBy W none->(Builtin.copy_ #[83,9] 3 #[.slice (some ⟨B,0,none⟩) 16 16, .string ⟨X.toArray⟩]).run prog W= .ok (.int .i64 16) (W.setCells B 0 (X.map aS)):=λW a=>by
  have g:BB W B l:=ab.kept HB.out a pu;have y:(ByteArray.mk X.toArray).size=16:=by simpa[ByteArray.size]using k
  have:=run_copy_string (P:=prog) W 83 9 3 5 B 0 16 16 ⟨X.toArray⟩ underlying83 ace pm (λj u=>by rw[ef,g.cell j pm];rfl) (λj u=>by rw[ef];exact ab.frozen g j);rw[y]at this;exact this
 unfold S vF at*;go_enter func150,ntmps150;go_region_with (first
  |(go_at_call 202;(with_reducible refine (m _).mono ?_);rintro e x ⟨rfl,a⟩;have p:=f x (by first|exact ai (aM (ak w none)) a|exact a)))
 all_goals
  have h:=ai (aM (ak w none)) a;have r:=t x h;clear p f q o a;go_end0;exact ⟨rfl,r,qm _ _ _ _ _ (eo h)⟩
def mX(f:UInt8->UInt8)(l:Lb)(i:Nat):Lb:=(l.map f).take i++l.drop i
def ZY (f:UInt8->UInt8)(l:Lb)(n:Nat)(h:l.length=n):mX f l n=l.map f:=by subst h;unfold mX;rw[tI,ev,cE pu]
def Iv (f:UInt8->UInt8) l (i:Nat):(mX f l i).length=l.length:=by unfold mX;rw[aK,aJ,aR,cY];omega
def ZZ (f:UInt8->UInt8)(l:Lb)(i:Nat)(h:i<l.length):(mX f l i)[i]'(by rw[Iv];exact h)=l[i]:=by unfold mX;rw[uV (by rw[aJ];omega)];simp[iF (pO h)]
def OD (f:UInt8->UInt8)(l:Lb)(i:Nat)(h:i<l.length):(mX f l i).set i (f l[i])=mX f l (i+1):=by unfold mX;rw[kp _ _ (by rw[aJ];omega),aJ,cY,iF (pO h),il];have e:l.drop i=l[i]::l.drop (i+1):=jV h;rw[fP (by simpa using h)];simp;rw[e];rfl
def BB.set (h:BB w B l)(i:Nat)(c:UInt8):BB (w.setCell ⟨B,i,none⟩ (.int .u8 c.toNat)) B (l.set i c):=by have:=ab.set h i (aS c);unfold BB;rw[pP];exact this
def Wq w (B T q:Nat)(f:UInt8->UInt8) l (m:BB w B l)(p:l.length=16)(o:∀W:World,w.grownBy W (some B)->∀c:UInt8,W.cell? ⟨T,q+c.toNat,none⟩=some (.int .u8 ((f c).toNat))):
 Calls prog 151 #[.pointer (some ⟨B,0,none⟩), .pointer (some ⟨T,q,none⟩)] w λe w'=>e= .returned (.tuple #[])/\BB w' B (l.map f)/\w.grownBy w' (some B):=by
 have k:=Hq p;clear p;go_enter func151,ntmps151;go_wp2_with fail;go_loopw [7] (λj wr=>∃i:Nat,i<=16/\j= .int .i64 i/\BB wr B (mX f l i)/\w.grownBy wr (some B)) (λj _=>16-(intOf j).toNat)
 case atStart=>exact ⟨0,pm,rfl,m,ak _ _⟩
 case round=>
  clear m;obtain ⟨i,v,rfl,a,b⟩:=hrel;by_cases x:i<16
  ·have g:i<l.length:=(by have:=k.out;omega);have c1:=a.cell i (by rw[Iv];exact g);rw[ZZ f l i g]at c1;have u:=ab.frozen a i;have h:=Hq (And.intro (a.set i (f l[i])) (aw b i (.int .u8 ((f l[i]).toNat))));rw[OD f l i g]at h;have ct:=o wr b l[i];have t:=iO l[i];generalize f l[i]=d at*;generalize l[i]=c at*;clear a o;have r:(0:Int)<=(c.toNat:Int):=pm;have s:(c.toNat:Int)<256:=pm;go_wp2_with fail;go_region;go_wp2_with fail;go_region;go_wp2;go_roundw
   case rel=>exact ⟨i+1,pm,by go_num,h.out.1,aM (aM h.out.2)⟩
   case measure=>simp[intOf];omega
  obtain rfl:i=16:=pm
  rw[ZY f l 16 k.out]at a;go_wp2;go_end0;exact ⟨rfl,a,b⟩
def rJ(t:Nat)(b:Lb)(i:Nat):Lb:=(qz t b).take i++b.drop i
def X1 (t:Nat)(b:Lb)(a:b.length=16)(i:Nat):(rJ t b i).length=16:=by unfold rJ;rw[aK,aJ,aR,uK,a];omega
def TX w (B t:Nat) l (f:BB w B l)(h:l.length=16)(ht:t<=3):
 Calls prog 152 #[.pointer (some ⟨B,0,none⟩), .int .i64 t] w λe w'=>e= .returned (.tuple #[])/\BB w' B (qz t l)/\w.grownBy w' (some B):=by
 have b:=Hq h;have sY:(prog.info? 225).map (·.size)=some (l.map aS).length:=by rw[cY,h];kernel_rfl
 have U:=Hq sY;have a1:=λW:World=>yz (P:=prog) W qa 225 (l.map aS) (by simp[h]) (by intro v hv;obtain ⟨c,_,rfl⟩:=eS.1 hv;rfl);clear h sY;go_enter func152,ntmps152;go_upto_region 0with(fail);refine oB ?_;refine Go.Great.wpList_readTo rfl _ rfl (.pointer (some ⟨B,0,none⟩)) rfl ?_;refine Go.Great.wpList_readTo rfl _ rfl (.pointer (some ⟨B,0,none⟩)) rfl ?_;refine wpList_load_mid rfl 225 _ rfl B 0 rfl (l.map aS) _ (ab.range f) underlying225 rfl U.out ?_;go_upto_region 1with(fail);clear a1;obtain ⟨C,j⟩:=kq w.heap.size;have z:BB (w.alloc (.cells (l.map aS).toArray 225)) C l:=by rw[j];exact ab.new w _ _
 have y:BB (w.alloc (.cells (l.map aS).toArray 225)) B (rJ t l 0):=ab.kept f (aT _ _ none) pu;have a0:w.grownBy (w.alloc (.cells (l.map aS).toArray 225)) (some B):=aF (ak w _) _;have a2:B≠C:=by have:=ab.lt f;omega
 rw[<-j];clear f j;generalize w.alloc (.cells (l.map aS).toArray 225)=x at*;have R:=Hq z;clear z;go_wp2_with fail;go_loopw [11] (λs wr=>∃i:Nat,i<=16/\s= .int .i64 i/\BB wr B (rJ t l i)/\x.grownBy wr (some B)) (λs _=>16-(intOf s).toNat)
 case atStart=>exact ⟨0,pm,rfl,y,ak _ _⟩
 case round=>
  clear y;obtain ⟨i,hi,rfl,a,g⟩:=hrel;have kl:=X1 t l b.out i;by_cases p:i<16
  ·obtain ⟨k,m,a3⟩:∃k:Nat,k=i%4+4*((i/4+t*(i%4))%4)/\k<16:=⟨_,rfl,pm⟩;have o:k<l.length:=(by have:=b.out;omega);have I:BB wr C l:=ab.kept R.out g pp;have ck:=I.cell k o;have J:(rJ t l i).set i l[k]=rJ t l (i+1):=by
    have e1:(qz t l)[i]'(by rw[uK];exact p)=l[k]:=by unfold qz;rw[yX,BE,<-m,dh,aW o];rfl
    have e2:l.drop i=l[i]'(by have:=b.out;omega)::l.drop (i+1):=jV _;unfold rJ;rw[kp _ _ (by rw[aJ];omega),aJ,uK,iF (pO p),il,e2,iD];rw[fP (by rw[uK];exact p),e1,dM];rfl
   have q:=Hq (And.intro (a.set i l[k]) (aw g i (.int .u8 (l[k].toNat))));rw[J]at q;clear J;have ci:=a.cell i pm;have fi:=ab.frozen a i;generalize (rJ t l i)[i]'_=d at*;generalize l[k]=c at*;have q1:(t:Int)*((i:Int)%4)=((t*(i%4):Nat):Int):=(by rw[Int.natCast_mul];rfl);obtain ⟨u,r⟩:=kq (t*(i%4):Nat);have a4:u<=9:=by rw[r];exact Nat.mul_le_mul ht (by omega:i%4<=3)
   rw[<-r]at q1 m;clear r;have q3:(i:Int)%4+4*(((i:Int)/4+(u:Int))%4)=(k:Int):=pm;have k0:(0:Int)<=(k:Int):=pm;have k1:(k:Int)<16:=pm;clear a I m kl o hi g;go_wp2_with fail;go_region;go_wp2;go_roundw
   case rel=>exact ⟨i+1,pm,by go_num,q.out.1,aM q.out.2⟩
   case measure=>simp[intOf];omega
  obtain rfl:i=16:=pm
  have e:rJ t l 16=qz t l:=by unfold rJ;rw[iP (by have:=b.out;omega),ev,cE (by rw[uK];omega)]
  rw[e]at a;go_wp2;go_end0;exact ⟨rfl,a,ai a0 g⟩
def oT(y b:Lb)(i:Nat):Lb:=(sJ y b).take i++b.drop i
def Wu (y b:Lb)(a:b.length=16)(i:Nat):(oT y b i).length=16:=by unfold oT;rw[aK,aJ,aR,vS,a];omega
def Wv (y b:Lb)(e:b.length=16)(i:Nat)(a:i<16):(oT y b i).set i (mQ y b i 4)=oT y b (i+1):=by
 have c:(sJ y b)[i]'(by rw[vS];exact a)=mQ y b i 4:=by unfold sJ;rw[yX,BE]
 have d:b.drop i=b[i]'(pm)::b.drop (i+1):=jV _;unfold oT;rw[kp _ _ (by rw[aJ];omega),aJ,vS,iF (pO a),il,d,iD];rw[fP (by rw[vS];exact a),c,dM];rfl
def YB(w:World)(B:Nat)(l:Lb):Prop:=ab w B 232 (l.map aS)
def YB.cell (h:YB w B l)(i:Nat)(a:i<l.length):w.cell? ⟨B,i,none⟩=some (.int .u8 (l[i].toNat)):=by rw[ab.cell h];simp[aS,a]
def TN w (B:Nat)(y l:Lb)(t:BB w B l)(r:l.length=16)(hy:y.length=4):
 Calls prog 153 #[.pointer (some ⟨B,0,none⟩), .agg (y.map aS).toArray] w λe w'=>e= .returned (.tuple #[])/\BB w' B (sJ y l)/\w.grownBy w' (some B):=by
 have p:=Hq r;have HY:=Hq hy;have sY:(prog.info? 225).map (·.size)=some (l.map aS).length:=by rw[cY,r];kernel_rfl
 have HI:=Hq sY;have b1:=λW:World=>yz (P:=prog) W qa 225 (l.map aS) (by simp[r]) (by intro v hv;obtain ⟨c,_,rfl⟩:=eS.1 hv;rfl);clear r hy sY;go_enter func153,ntmps153;go_upto_region 1with(fail);have u:BB (w.alloc (.cells (y.map aS).toArray 232)) B l:=ab.kept t (aT _ _ none) pu;have q:YB (w.alloc (.cells (y.map aS).toArray 232)) w.heap.size y:=ab.new w _ _;have a4:w.grownBy (w.alloc (.cells (y.map aS).toArray 232)) (some B):=aF (ak w _) _;have a8:B<w.heap.size:=ab.lt t;generalize w.alloc (.cells (y.map aS).toArray 232)=v at*;obtain ⟨Y,hY⟩:=kq w.heap.size;rw[<-hY]at q a8⊢;clear hY t;refine oB ?_;refine Go.Great.wpList_readTo rfl _ rfl (.pointer (some ⟨B,0,none⟩)) rfl ?_;refine Go.Great.wpList_readTo rfl _ rfl (.pointer (some ⟨B,0,none⟩)) rfl ?_;refine wpList_load_mid rfl 225 _ rfl B 0 rfl (l.map aS) _ (ab.range u) underlying225 rfl HI.out ?_;go_upto_region 2with(fail);clear b1;have a9:Y<v.heap.size:=ab.lt q;have z:BB (v.alloc (.cells (l.map aS).toArray 225)) v.heap.size l:=ab.new v _ _;have a2:YB (v.alloc (.cells (l.map aS).toArray 225)) Y y:=ab.kept q (aT _ _ none) pu
 have a0:BB (v.alloc (.cells (l.map aS).toArray 225)) B (oT y l 0):=ab.kept u (aT _ _ none) pu;have a':w.grownBy (v.alloc (.cells (l.map aS).toArray 225)) (some B):=aF a4 _;obtain ⟨C,hC⟩:=kq v.heap.size;rw[<-hC]at z a9⊢;clear hC q u a4;generalize v.alloc (.cells (l.map aS).toArray 225)=x at*;have HC:=Hq z;have a7:=Hq a2;clear z a2;go_wp2_with fail;go_loopw [12] (λU wr=>∃i:Nat,i<=16/\U= .int .i64 i/\BB wr B (oT y l i)/\x.grownBy wr (some B)) (λU _=>16-(intOf U).toNat)
 case atStart=>exact ⟨0,pm,rfl,a0,ak _ _⟩
 case round=>
  clear a0;obtain ⟨i,hi,rfl,a,b⟩:=hrel;have kl:=Wu y l p.out i;by_cases b0:i<16
  ·have hs:=Hq (Wv y l p.out i b0);have hd:decide ((i:Int)<16)=true:=pp;have s:=a.cell i pm;have fi:=ab.frozen a i;have j:BB (wr.setCell ⟨B,i,none⟩ (.int .u8 0)) B ((oT y l i).set i (mQ y l i 0)):=a.set i 0;have o:=aw b i (.int .u8 0);generalize (oT y l i)[i]'_=d at*;generalize oT y l i=L at*;have f:=Hq (And.intro j o);clear j o a b;go_wp2_with fail;go_loopw [23] (λvk wk=>∃k:Nat,k<=4/\vk= .int .i64 k/\BB wk B (L.set i (mQ y l i k))/\x.grownBy wk (some B)) (λvk _=>4-(intOf vk).toNat)
   case atStart=>exact ⟨0,pm,rfl,f.out.1,f.out.2⟩
   case round=>
    clear f fi s;obtain ⟨k,hk,rfl,a,b⟩:=hrel;by_cases b2:k<4
    ·obtain ⟨m,hm⟩:=kq ((k+4-i%4)%4:Nat);obtain ⟨n,hn⟩:=kq (4*(i/4)+k:Nat);have J:m<y.length:=(by have:=HY.out;omega);have R:n<l.length:=(by have:=p.out;omega);have q1:((k:Int)-(i:Int)%4+4)%4=(m:Int):=pm;have b7:Int.tmod ((k:Int)-(i:Int)%4+4) 4=(m:Int):=by rw[Int.tmod_eq_emod_of_nonneg pm];exact q1
     have b3:IntKind.i64.wrap ((k:Int)-(i:Int)%4)=(k:Int)-(i:Int)%4:=dG _ pm;have b4:IntKind.i64.wrap ((k:Int)-(i:Int)%4+4)=(k:Int)-(i:Int)%4+4:=dG _ pm;have b8:IntKind.i64.wrap (4*((i:Int)/4))=4*((i:Int)/4):=dG _ pm;have b9:IntKind.i64.wrap (4*((i:Int)/4)+(k:Int))=4*((i:Int)/4)+(k:Int):=dG _ pm;have b6:(0:Int)<=(k:Int)-(i:Int)%4+4:=pm;have q2:4*((i:Int)/4)+(k:Int)=(n:Int):=pm;have b':IntKind.i64.wrap (n:Int)=(n:Int):=dG _ pm;have b5:IntKind.i64.wrap (m:Int)=(m:Int):=dG _ pm;have i0:(0:Int)<=(i:Int):=pm;have i1:(i:Int)<16:=pm;have m0:(0:Int)<=(m:Int):=pm;have m1:(m:Int)<4:=pm;have n0:(0:Int)<=(n:Int):=pm;have n1:(n:Int)<16:=pm;have a1:BB wr C l:=ab.kept HC.out b pp;have a3:YB wr Y y:=ab.kept a7.out b pp;have cm:=a3.cell m J;have cn:=a1.cell n R;have s:=a.cell i (by rw[gL];omega);rw[EN]at s;have fi:=ab.frozen a i;have a5:mQ y l i (k+1)=mQ y l i k^^^ru y[m] l[n]:=by rw[mQ,<-hm,<-hn,dh,aW J,dh,aW R];rfl
     have j:=a.set i (mQ y l i (k+1));rw[BZ]at j;have o:=aw b i (.int .u8 ((mQ y l i (k+1)).toNat));have f:=Hq (And.intro j o);have A1:∀W:World,Calls prog 203 #[.int .u8 (y[m].toNat:Nat), .int .u8 (l[n].toNat:Nat)] W λe w'=>e= .returned (.int .u8 ((ru y[m] l[n]).toNat:Nat))/\W=w':=λW=>by rw[QW];exact Dq _ _ W (iO _) (iO _)
     have xb:=EH (mQ y l i k) (ru y[m] l[n]);rw[<-a5]at xb;clear hm hn j o a b a1 a3 a5;generalize ru y[m] l[n]=g at*;generalize y[m]=cy at*;generalize l[n]=cl at*;obtain ⟨cb,I⟩:∃c,c=mQ y l i (k+1):=⟨_,rfl⟩;rw[<-I]at xb f;have a6:=Hq I;clear I;generalize mQ y l i k=ca at*;clear J R;go_wp2_with fail;go_still_tail 22,qr;still_call((A1 _).mono (λe w' h=>⟨h.1,h.2.symm⟩));repeat still_step
     refine vA ?_;change wpList _ _ _ _ _ wr.drew;go_wp2;go_roundw
     case rel=>exact ⟨k+1,pm,by go_num,by rw[<-a6.out];exact f.out.1,aM f.out.2⟩
     case measure=>simp[intOf];omega
    obtain rfl:k=4:=pm;rw[hs.out]at a;go_wp2;go_roundw
    case rel=>exact ⟨i+1,pm,by go_num,a,b⟩
    case measure=>simp[intOf];omega
  obtain rfl:i=16:=pm
  have e:oT y l 16=sJ y l:=by unfold oT;rw[iP (by have:=p.out;omega),ev,cE (by rw[vS];omega)]
  rw[e]at a;go_wp2;go_end0;exact ⟨rfl,a,ai a' b⟩
def pZ(w:World)(B:Nat)(l:Lb):Prop:=ab w B 232 (l.map aS)
def pZ.cell (h:pZ w B l)(i:Nat)(a:i<l.length):w.cell? ⟨B,i,none⟩=some (.int .u8 (l[i].toNat)):=by rw[ab.cell h];simp[aS,a]
def pZ.set (h:pZ w B l)(i:Nat)(c:UInt8):pZ (w.setCell ⟨B,i,none⟩ (.int .u8 c.toNat)) B (l.set i c):=by have:=ab.set h i (aS c);unfold pZ;rw[pP];exact this
def jZ.below (h:jZ w T)(d:T<n)(g:Below n w w'):jZ w' T:=by obtain ⟨c,a,b⟩:=h;refine ⟨c,?_,b⟩;rw[g.block T d];exact a
def qy(l:Lb)(k:Nat):Lb:=((l.drop 1).map dL).take k++l.drop k
def Eg (l:Lb)(k:Nat)(h:k+1<=l.length):(qy l k).length=l.length:=by unfold qy;rw[aK,aJ,cY,aR,aR];omega
def W3 (l:Lb)(k j:Nat)(h:k+1<=l.length)(a:j<l.length)(b:k<=j):(qy l k)[j]'(by rw[Eg l k h];exact a)=l[j]:=by
 have lt:(((l.drop 1).map dL).take k).length=k:=by rw[aJ,cY,aR];omega
 unfold qy;rw[uV pm,vh];congr 1;omega
def W7 (l:Lb)(k:Nat)(h:k+1<l.length):(qy l k).set k (dL l[k+1])=qy l (k+1):=by
 have lt:(((l.drop 1).map dL).take k).length=k:=by rw[aJ,cY,aR];omega
 have e:l.drop k=l[k]::l.drop (k+1):=jV pm;unfold qy;rw[kp _ _ pm,lt,il,e,iD,fP (by rw[cY,aR];omega),dM];have a:((l.drop 1).map dL)[k]'(by rw[cY,aR];omega)=dL l[k+1]:=by rw[yX,vh];congr 2;omega
 rw[a];rfl
def Yn (w:World)(a b c d:Int):(Instr.index 232 (.agg #[.int .u8 a, .int .u8 b, .int .u8 c, .int .u8 d]) (.int .i64 0)).run prog w= .ok (.int .u8 a) w:=qr
def Yo (w:World)(b a c d:Int):(Instr.index 232 (.agg #[.int .u8 b, .int .u8 a, .int .u8 c, .int .u8 d]) (.int .i64 1)).run prog w= .ok (.int .u8 a) w:=qr
def Yp (w:World)(b c a d:Int):(Instr.index 232 (.agg #[.int .u8 b, .int .u8 c, .int .u8 a, .int .u8 d]) (.int .i64 2)).run prog w= .ok (.int .u8 a) w:=qr
def Yq (w:World)(b c d a:Int):(Instr.index 232 (.agg #[.int .u8 b, .int .u8 c, .int .u8 d, .int .u8 a]) (.int .i64 3)).run prog w= .ok (.int .u8 a) w:=qr
def Ob (w:World)(a b c d:UInt8)(k:Nat)(e:k<[a,b,c,d].length):
 (Instr.index 232 (.agg #[.int .u8 a.toNat, .int .u8 b.toNat, .int .u8 c.toNat, .int .u8 d.toNat]) (.int .i64 k)).run prog w= .ok (.int .u8 ([a,b,c,d][k].toNat)) w:=by
 match k,e with
 |0,_=>exact Yn w _ _ _ _
 |1,_=>exact Yo w _ _ _ _
 |2,_=>exact Yp w _ _ _ _
 |3,_=>exact Yq w _ _ _ _
def four {b:Lb}(h:b.length=4):∃a c d e,b=[a,c,d,e]:=by
 match b,h with
 |[a,c,d,e],_=>exact ⟨a,c,d,e,rfl⟩
def Zt (n i:Nat)(p a b c d:UInt8)(h:i%n=0):kY n i p [a,b,c,d]=((qy [a,b,c,d] 3).set 3 (dL a)).set 0 (dL b^^^p):=by unfold kY;rw[av h];rfl
def Zv (n i:Nat)(p a b c d:UInt8)(h:¬i%n=0)(e:n=8/\i%n=4):kY n i p [a,b,c,d]=mX dL [a,b,c,d] 4:=by unfold kY;rw[au h,av e];rfl
def Zw (n i:Nat)(p a b c d:UInt8)(h:¬i%n=0)(e:¬(n=8/\i%n=4)):kY n i p [a,b,c,d]=[a,b,c,d]:=by unfold kY;rw[au h,au e]
def UW w (T n:Nat)(key:Lb)(hT:jZ w T)(hk:key.length=4*n)(hn:n=4\/n=8):
 Calls prog 201 #[.pointer (some ⟨T,0,none⟩),S key] w λe w'=>e= .returned (S (oW key))/\w.grownBy w' none:=by
 have g4:=mI.lt hT;have e5:∀W:World,Below w.heap.size w W->Hid (jZ W T):=λW g=>Hq (hT.below g4 g);obtain ⟨v,x,g6,a4,f1⟩:=JJ w key (by unfold maxLen;omega);have e9:oW key=uk n (3*n+28) n 1 key:=by unfold oW;rw[hk,Nat.mul_div_cancel_left n (by omega:0<4)]
 have HF:=Hq e9;have e7:Below w.heap.size w x:=ql f1 _ (bm _) pu;clear e9 hT f1;have q0:(key.length:Int)/4=(n:Int):=pm
 have HK:=Hq hk;clear hk;unfold S;go_enter func201,ntmps201;go_wp2_with fail;clear g6;go_loopw [6,7,8] (λvw vp vi wr=>∃(i k:Nat) (p:UInt8) (L:Lb),n<=i/\i<=4*(n+7)/\vi= .int .i64 i/\vp= .int .u8 p.toNat/\Hid (dJ wr w.heap.size vw L)/\L.length=4*k+4/\i=k+1/\Hid (uk n (4*(n+7)-i) i p L=oW key)/\Below w.heap.size w wr) (λ_ _ vi _=>4*(n+7)-(intOf vi).toNat)
 case atStart=>exact ⟨n,n-1,1,key,pm,pm,rfl,rfl,a4,by have:=HK.out;omega,pm,by rw[HF.out,show 4*(n+7)-n=3*n+28from pm];rfl,e7⟩
 case round=>
  clear a4 e7;obtain ⟨i,k,p,L,g8,h9,rfl,rfl,a4,hL,a7,hE,HB⟩:=hrel;have i6:(0:Int)<(n:Int):=pm
  have m1:(4:Int)*((n:Int)+7)=4*(n:Int)+28:=pm
  by_cases h':i<4*(n+7)
  ·have hd:decide ((i:Int)<4*(n:Int)+28)=true:=pp;obtain ⟨g,g0,hv,h2,h3,h4,g7,J,h6⟩:=id a4.out;subst hv;have c0:=J.cell (4*k) pm;have c1:=J.cell (4*k+1) pm;have c2:=J.cell (4*k+2) pm;have c3:=J.cell (4*k+3) pm;have f5:L.drop (L.length-4)=[L[4*k]'(pm),L[4*k+1]'(pm),L[4*k+2]'(pm),L[4*k+3]'(pm)]:=by rw[show L.length-4=4*k from pm,jV pm,jV pm,jV pm,jV pm,iP pm]
   have d4:=Hq f5;generalize L[4*k]'_=a0 at*;generalize L[4*k+1]'_=a1 at*;generalize L[4*k+2]'_=a2 at*;generalize L[4*k+3]'_=a3 at*;have b':=Hq hL;have b9:=Hq a7;obtain ⟨z,hz⟩:=kq (4*k:Nat);rw[<-hz]at c0 c1 c2 c3 hL;have s1:(4:Int)<=(L.length:Int):=pm;have s2:(L.length:Int)-4=(z:Int):=pm;have s3:(z:Int)<=(L.length:Int):=pm;have s4:(0:Int)<=(z:Int):=pm;have s5:L.length-z=4:=pm;have s6:IntKind.i64.wrap (z:Int)=(z:Int):=dG _ pm;have HZ:=Hq hz;clear f5 hz J h6 a7 hL g7;have g5:=λW:World=>run_arrayAt (P:=prog) (w:=W) 232 5 4 (some ⟨g,z,none⟩) 4 (g0-z) underlying232 (bm _);go_upto_block 2with(fail);clear g5;obtain ⟨B,b4⟩:=kq wr.heap.size;have e6:pZ (wr.alloc (.cells #[.int .u8 a0.toNat, .int .u8 a1.toNat, .int .u8 a2.toNat, .int .u8 a3.toNat] 232)) B [a0,a1,a2,a3]:=by rw[b4];exact aO wr _
   have b5:wr.grownBy (wr.alloc (.cells #[.int .u8 a0.toNat, .int .u8 a1.toNat, .int .u8 a2.toNat, .int .u8 a3.toNat] 232)) none:=aF (ak _ _) _;rw[<-b4];generalize wr.alloc (.cells #[.int .u8 a0.toNat, .int .u8 a1.toNat, .int .u8 a2.toNat, .int .u8 a3.toNat] 232)=y at*;have g1:w.heap.size<=B:=by rw[b4];exact HB.size
   have h0:T<B:=pm;have h7:g<B:=pm;have c8:=Hq (a4.out.kept b5 nofun);have b8:Below w.heap.size w y:=FJ HB b5 nofun
   have d7:=e5 y b8;have f':=Hq b5;clear b4 c0 c1 c2 c3 b5 a4;have s:=Hq e6;clear e6;obtain ⟨a,b6⟩:=kq ([a0,a1,a2,a3]);have f4:a.length=4:=(by rw[b6];rfl);rw[<-b6]at s d4;have h:=Hq b6;clear b6;have d:=Hq f4;clear f4;have d6:∀W:World,y.grownBy W (some B)->∀c:UInt8,W.cell? ⟨T,c.toNat,none⟩=some (.int .u8 ((dL c).toNat)):=λW g c=>jZ.sub (jZ.kept d7.out g pp) c;have a':=Hq d6;clear d6;go_cut [7] (λvp wx=>∃q:UInt8,vp= .int .u8 q.toNat/\Hid (q=wB n i p)/\Hid (pZ wx B (kY n i p a))/\y.grownBy wx (some B))
   case first=>
    clear e5 s1 s2 s3 s4 s5 s6 m1;by_cases I:i%n=0
    ·have q1:((i:Int)%(n:Int)==0)=true:=by have:(i:Int)%(n:Int)=0:=pm;simpa using this
     have hl:Hid (kY n i p a=((qy a 3).set 3 (dL a0)).set 0 (dL a1^^^p)):=Hq (by rw[h.out];exact Zt n i p a0 a1 a2 a3 I);have a8:Hid (ru p 2=wB n i p):=Hq (by unfold wB;rw[av I]);have d0:y.cell? ⟨B,0,none⟩=some (.int .u8 a0.toNat):=by have:=s.out.cell 0 (by rw[d.out];omega);rw[this];simp only[h.out];rfl
     clear I;go_wp2_with fail;go_loopw [43,11] (λr vk wr=>∃m:Nat,m<=3/\r= .int .i64 m/\pZ wr B (qy a m)/\y.grownBy wr (some B)) (λr _ _=>3-(intOf r).toNat)
     case atStart=>exact ⟨0,pm,rfl,s.out,ak _ _⟩
     case round=>
      obtain ⟨m,hm,rfl,b,f⟩:=hrel;clear d0;by_cases u:m<3
      ·have e1:=b.cell (m+1) (by rw[Eg _ _ (by rw[d.out];omega),d.out];omega);rw[W3 _ _ _ (by rw[d.out];omega) (by rw[d.out];omega) pm]at e1;have e2:=b.cell m (by rw[Eg _ _ (by rw[d.out];omega),d.out];omega);have f2:=ab.frozen b m;have ct:=a'.out wr f (a[m+1]'(by rw[d.out];omega));have o:=b.set m (dL (a[m+1]'(by rw[d.out];omega)));rw[W7 _ _ (by rw[d.out];omega)]at o;have R:=aw f m (.int .u8 ((dL (a[m+1]'(by rw[d.out];omega))).toNat));have j:=Hq (And.intro o R);clear o R b f;generalize dL (a[m+1]'_)=dd at*;have ub:=iO (a[m+1]'(by rw[d.out];omega));generalize a[m+1]'_=cc at*;have i0:(0:Int)<=(m:Int):=pm;have i1:(m:Int)<4:=pm;have i2:(0:Int)<=(m:Int)+1:=pm;have i3:(m:Int)+1<4:=pm;have i4:IntKind.i64.wrap ((m:Int)+1)=(m:Int)+1:=dG _ pm;have i5:((m:Int)+1).toNat=m+1:=pm;have j0:(0:Int)<=(cc.toNat:Int):=pm;have j1:(cc.toNat:Int)<256:=pm;go_wp2_with fail;go_still_tail 11,qr;change wpList _ _ _ _ _ wr.drew;go_wp2;go_roundw
       case rel=>exact ⟨m+1,pm,by go_num,j.out.1,aM j.out.2⟩
       case measure=>simp[intOf];omega
      obtain rfl:m=3:=pm;have rl:=Eg a 3 (by rw[d.out];omega);rw[d.out]at rl;have ct:=a'.out wr f a0;have e3:=b.cell 3 pm;have f3:=ab.frozen b 3;have f0:=ab.frozen b 0;have e0:wr.cell? ⟨B,0,none⟩=some (.int .u8 ((dL a1).toNat)):=by have:=b.cell 0 pm;rw[this];simp only[h.out];rfl
      have o:=(b.set 3 (dL a0)).set 0 (dL a1^^^p);rw[<-hl.out]at o;have R:=aw (aw f 3 (.int .u8 ((dL a0).toNat))) 0 (.int .u8 ((dL a1^^^p).toNat));have j:=Hq (And.intro o R);have xb:=EH (dL a1) p;have hA:∀W:World,Calls prog 203 #[.int .u8 (p.toNat:Nat), .int .u8 2] W λe w'=>e= .returned (.int .u8 ((ru p 2).toNat:Nat))/\W=w':=λW=>by rw[QW];exact Dq p.toNat 2 W (iO p) pm
      generalize (qy a 3)[3]'_=r3 at*;clear o R b f rl;generalize dL a1^^^p=x0 at*;generalize dL a0=s0 at*;generalize dL a1=s1 at*;have j0:(0:Int)<=(a0.toNat:Int):=pm;have j1:(a0.toNat:Int)<256:=(by have:=iO a0;omega);go_wp2_with fail;refine (hA _).mono ?_;rintro e w9 ⟨rfl,rfl⟩;go_wp2;go_meet;exact ⟨_,rfl,a8,Hq j.out.1,j.out.2⟩
    have q1:((i:Int)%(n:Int)==0)=false:=by have:¬(i:Int)%(n:Int)=0:=pm;simpa using this
    have a8:Hid (p=wB n i p):=Hq (by unfold wB;rw[au I]);by_cases a9:n=8/\i%n=4
    ·have hl:Hid (kY n i p a=mX dL a 4):=Hq (by rw[h.out];exact Zv n i p a0 a1 a2 a3 I a9);have q2:((n:Int)==8)=true:=by have:(n:Int)=8:=pm;simpa using this
     have q3:((i:Int)%(n:Int)==4)=true:=by have:(i:Int)%(n:Int)=4:=pm;simpa using this
     have d0:y.cell? ⟨B,0,none⟩=some (.int .u8 a0.toNat):=by have:=s.out.cell 0 (by rw[d.out];omega);rw[this];simp only[h.out];rfl
     have d1:y.cell? ⟨B,1,none⟩=some (.int .u8 a1.toNat):=by have:=s.out.cell 1 (by rw[d.out];omega);rw[this];simp only[h.out];rfl
     have d2:y.cell? ⟨B,2,none⟩=some (.int .u8 a2.toNat):=by have:=s.out.cell 2 (by rw[d.out];omega);rw[this];simp only[h.out];rfl
     have d3:y.cell? ⟨B,3,none⟩=some (.int .u8 a3.toNat):=by have:=s.out.cell 3 (by rw[d.out];omega);rw[this];simp only[h.out];rfl
     clear I a9;go_wp2_with fail;go_loopw [82,12,13] (λr vk vc wr=>∃m:Nat,m<=4/\r= .int .i64 m/\pZ wr B (mX dL a m)/\y.grownBy wr (some B)) (λr _ _ _=>4-(intOf r).toNat)
     case atStart=>exact ⟨0,pm,rfl,s.out,ak _ _⟩
     case round=>
      clear d0 d1 d2 d3;obtain ⟨m,hm,rfl,b,f⟩:=hrel;by_cases u:m<4
      ·have c6:m<a.length:=by rw[d.out];exact u
       have e2:=b.cell m (by rw[Iv];exact c6);have f2:=ab.frozen b m;have ix:∀W:World,(Instr.index 232 (.agg #[.int .u8 a0.toNat, .int .u8 a1.toNat, .int .u8 a2.toNat, .int .u8 a3.toNat]) (.int .i64 m)).run prog W= .ok (.int .u8 (a[m].toNat)) W:=λW=>by have:=Ob W a0 a1 a2 a3 m (by simpa using u);rw[this];simp only[h.out]
       have ct:=a'.out wr f a[m];have o:=b.set m (dL a[m]);rw[OD _ _ _ c6]at o;have R:=aw f m (.int .u8 ((dL a[m]).toNat));have j:=Hq (And.intro o R);clear o R b f;have ub:=iO a[m];generalize dL a[m]=dd at*;generalize a[m]=cc at*;generalize (mX dL a m)[m]'_=oo at*;have j0:(0:Int)<=(cc.toNat:Int):=pm;have j1:(cc.toNat:Int)<256:=pm;clear c6;go_wp2;go_roundw
       case rel=>exact ⟨m+1,pm,by go_num,j.out.1,j.out.2⟩
       case measure=>simp[intOf];omega
      obtain rfl:m=4:=pm;rw[<-hl.out]at b;have j:=Hq (And.intro b f);clear b f;go_wp2;go_meet;exact ⟨_,rfl,a8,Hq j.out.1,j.out.2⟩
    have hl:Hid (kY n i p a=a):=Hq (by
     conv=>lhs;rw[h.out]
     rw[Zw n i p a0 a1 a2 a3 I a9,h.out])
    have d8:Hid (pZ y B (kY n i p a)):=Hq (by rw[hl.out];exact s.out);by_cases h8:n=8
    ·have q2:((n:Int)==8)=true:=by have:(n:Int)=8:=pm;simpa using this
     have q3:((i:Int)%(n:Int)==4)=false:=by have:¬(i:Int)%(n:Int)=4:=pm;simpa using this
     clear I a9 h8;go_wp2;go_meet;exact ⟨_,rfl,a8,d8,ak _ _⟩
    have q2:((n:Int)==8)=false:=by have:¬(n:Int)=8:=pm;simpa using this
    clear I a9 h8;go_wp2;go_meet;exact ⟨_,rfl,a8,d8,ak _ _⟩
   case rest=>
    obtain ⟨q,rfl,hq,a5,c5⟩:=hcut;have b7:=Ol n i p a d.out;obtain ⟨U,c7⟩:=kq (kY n i p a);rw[<-c7]at a5 b7;obtain ⟨b0,b1,b2,b3,hb⟩:=four b7;obtain ⟨Z,hZ⟩:=kq (cH ((L.drop (4*(i-n))).take 4) U);have lZ:Z.length=4:=by rw[hZ,oq,aJ,aR,b7,b'.out];have:=b9.out;omega
    have e8:sP n i p L=L++Z:=(by rw[hZ,c7,sP,d4.out]);have f9:=Hq e8;have c':Below w.heap.size w wc:=FJ b8 c5 (by intro k hk;cases hk;exact g1);have c9:=Hq (c8.out.kept c5 (by simp[Value.ownBlock];omega));have d0:wc.cell? ⟨B,0,none⟩=some (.int .u8 b0.toNat):=by have:=a5.out.cell 0 pm;rw[this];simp only[hb];rfl
    have d1:wc.cell? ⟨B,1,none⟩=some (.int .u8 b1.toNat):=by have:=a5.out.cell 1 pm;rw[this];simp only[hb];rfl
    have d2:wc.cell? ⟨B,2,none⟩=some (.int .u8 b2.toNat):=by have:=a5.out.cell 2 pm;rw[this];simp only[hb];rfl
    have d3:wc.cell? ⟨B,3,none⟩=some (.int .u8 b3.toNat):=by have:=a5.out.cell 3 pm;rw[this];simp only[hb];rfl
    have f7:=Hq hb;have d9:=Hq hZ;have a6:=Hq lZ;clear e8 hb hZ lZ b7 c7 a5 c5 c8 b8 f' a' d7 s s1 s2 s3 s4 s5 s6;go_wp2_with fail;go_loopw [6,14,15,96] (λvw vk vc r wr=>∃m:Nat,m<=4/\r= .int .i64 m/\Hid (dJ wr w.heap.size vw (L++Z.take m))/\Below w.heap.size w wr) (λ_ _ _ r _=>4-(intOf r).toNat)
    case atStart=>exact ⟨0,pm,rfl,Hq (by rw[rW,ev];exact c9.out),c'⟩
    case round=>
     clear d0 d1 d2 d3 c9 c';obtain ⟨m,hm,rfl,b,f⟩:=hrel;by_cases u:m<4
     ·obtain ⟨g2,g',hv,k1,k2,k3,k4,J,h6⟩:=id b.out;subst hv;obtain ⟨t,g9⟩:=kq (4*(i-n)+m:Nat);have a7:=b9.out;have e4:=b'.out;have xl:t<L.length:=pm;have lt:(Z.take m).length=m:=(by rw[aJ,a6.out];omega);have ce:=J.cell t (by rw[aK];omega);rw[EM xl]at ce;have q1:4*((i:Int)-(n:Int))+(m:Int)=(t:Int):=pm;have q2:(0:Int)<=(t:Int):=pm;have q3:(t:Int)<((L++Z.take m).length:Int):=(by rw[aK];omega);have ix:∀W:World,(Instr.index 232 (.agg #[.int .u8 b0.toNat, .int .u8 b1.toNat, .int .u8 b2.toNat, .int .u8 b3.toNat]) (.int .i64 m)).run prog W= .ok (.int .u8 ((U.getD m 0).toNat)) W:=λW=>by have:=Ob W b0 b1 b2 b3 m (by simpa using u);rw[this,f7.out,dh,aW (by simpa using u)];rfl
      have xb:=EH L[t] (U.getD m 0);have f6:L++Z.take (m+1)=(L++Z.take m)++[L[t]^^^U.getD m 0]:=by
       rw[dM,fP (by rw[a6.out];exact u)];congr 3;have:Z[m]'(by rw[a6.out];exact u)=(cH ((L.drop (4*(i-n))).take 4) U)[m]'(by rw[<-d9.out,a6.out];exact u):=(by simp only[d9.out]);rw[this];simp only[cH,Bv,Fe,vh];congr 1
       ·congr 1;omega
       rw[dh,aW];rfl
      obtain ⟨v',w',hr,c4,e'⟩:=CF (L[t]^^^U.getD m 0) b.out (by rw[aK];omega) f.size;rw[<-f6]at c4;have d5:=Hq (And.intro c4 (FJ f e' (by intro k hk;cases hk;exact k1)));clear f6 c4 e' J h6 b f k1 k2 k3 k4 g9 lt a7 e4;generalize L[t]^^^U.getD m 0=z0 at*;generalize U.getD m 0=z1 at*;generalize L[t]=z2 at*;generalize (L++Z.take m).length=ln at*;go_wp2_with (at_builtin;go_must (refine zw rfl _ _ _ _ v' w' hr rfl rfl rfl rfl ?_));clear hr;go_wp2;go_roundw
      case rel=>exact ⟨m+1,pm,by go_num,Hq d5.out.1,d5.out.2⟩
      case measure=>simp[intOf];omega
     obtain rfl:m=4:=pm;have g3:Hid (dJ wr w.heap.size u6 (sP n i p L)):=Hq (by rw[f9.out];have:=b.out;rwa[cE (by rw[a6.out];omega)]at this);clear b;go_wp2;go_roundw
     case rel=>have a7:=b9.out;have e4:=b'.out;have hx:=MT n i p L pm g8 pm;refine ⟨i+1,k+1,q,sP n i p L,pm,pm,by go_num,rfl,g3,pm,pm,Hq ?_,f⟩;rw[<-hE.out,hq.out,show 4*(n+7)-i=(4*(n+7)-(i+1))+1from pm];rfl
     case measure=>simp[intOf];omega
  obtain rfl:i=4*(n+7):=pm
  have h1:=GG a4.out;have d':L=oW key:=by rw[<-hE.out,il];rfl
  have f8:=Hq d';clear d';go_wp2;go_ret;exact ⟨by rw[<-f8.out];rfl,iU HB⟩
def qT(w:World)(C T:Nat)(W:Lb):Prop:=ab w C 223 [.pointer (some ⟨T,0,none⟩),S W]
def qT.c0 (h:qT w C T W):w.cell? ⟨C,0,none⟩=some (.pointer (some ⟨T,0,none⟩)):=by rw[ab.cell h];rfl
def qT.c1 (h:qT w C T W):w.cell? ⟨C,1,none⟩=some (S W):=by rw[ab.cell h];rfl
def YK:(prog.info? 225).map (·.size)=some 16:=qr
def Sm (l:Lb):∀v∈l.map aS,v.oneCell'=true:=by intro v a;obtain ⟨c,_,rfl⟩:=eS.1 a;rfl
def UT w (C T n:Nat)(W a:Lb)(q:qT w C T W)(hT:jZ w T)(u:a.length=16)(hW:W.length=16*(n+1))(hn:1<=n)(e7:n<=100):
 Calls prog 98 #[.pointer (some ⟨C,0,none⟩),S a] w λe w'=>e= .returned (S (mR W n a))/\w.grownBy w' none:=by
 obtain ⟨a',x,a1,d',t,c6,a0⟩:=Ez w a pm;have e4:=ab.lt q;have e5:=mI.lt hT;have e0:=q.c1;have HC:=Hq (ab.kept q t nofun);have HT:=Hq (hT.kept t nofun);have e2:=λV:World=>yz (P:=prog) V qa 225 (a.map aS) (by simp[u]) (Sm a);have hr:x.rangeAt w.heap.size 0 (a.map aS):=by
  intro j v z;rw[ef];by_cases hj:j<a.length
  ·rw[a0.cell j hj];simp[hj,aS]at z;rw[z]
  rw[eE (by simpa using hj)]at z;cases z
 have b9:=λV:World=>run_arrayAt (P:=prog) (w:=V) 225 5 16 (some ⟨w.heap.size,0,none⟩) 16 a' underlying225 (bm _);have o:=Hq u;have f:=Hq hW;have q1:¬a.length<16:=pm
 have R:=Hq (And.intro t c6);have lW:16<=W.length:=pm
 have d0:=Hq a0;rw[u]at a1;clear u hW a0 t c6 q hT d';unfold S at*;go_enter func98,ntmps98;go_upto_region 2with(fail);refine oB ?_;refine Go.Great.wpList_readTo rfl _ rfl (.string ⟨a.toArray⟩) rfl ?_;refine Go.Great.wpList_runTo rfl _ rfl (.slice (some ⟨w.heap.size,0,none⟩) 16 a') x (by simp[execOp,Act.eval,Act.put,a1]) ?_;refine Go.Great.wpList_readTo rfl _ rfl (.pointer (some ⟨w.heap.size,0,none⟩)) (by simp[execOp,Act.eval,Act.put,b9]) ?_;refine wpList_load_mid rfl 225 _ rfl w.heap.size 0 rfl (a.map aS) _ hr underlying225 rfl (by rw[cY,o.out];exact YK) ?_;go_upto_region 3with(fail);clear e2 b9 hr a1;obtain ⟨B,p⟩:=kq x.heap.size;have b2:BB (x.alloc (.cells (a.map aS).toArray 225)) B a:=by rw[p];exact ab.new x _ _
 have b7:qT (x.alloc (.cells (a.map aS).toArray 225)) C T W:=ab.kept HC.out (aT _ _ none) nofun
 have b8:jZ (x.alloc (.cells (a.map aS).toArray 225)) T:=HT.out.kept (aT _ _ none) nofun
 have b':w.grownBy (x.alloc (.cells (a.map aS).toArray 225)) none:=aF R.out.1 _;have e3:w.heap.size<=B:=by rw[p];exact R.out.1.size
 rw[<-p];clear p HC HT R d0;generalize x.alloc (.cells (a.map aS).toArray 225)=y at*;have a4:=Hq b2;have d1:=Hq b7;have d5:=Hq b8;have d2:=Hq b';have d7:∀d:World,y.grownBy d (some B)->Hid (∀c:UInt8,d.cell? ⟨T,0+c.toNat,none⟩=some (.int .u8 ((dL c).toNat))):=λd g=>Hq (λc=>by rw[ef];exact jZ.sub (d5.out.kept g pp) c);have d6:∀d:World,y.grownBy d (some B)->Hid (d.cell? ⟨C,0,none⟩=some (.pointer (some ⟨T,0,none⟩))):=λd g=>Hq (qT.c0 (W:=W) (ab.kept d1.out g pp));clear b2 b7 b8 b' e0;go_wp2_with fail;refine (Ga y B a W a4.out o.out lW (by have:=f.out;omega)).mono ?_;rintro e w1 ⟨rfl,b3,c2⟩;have b0:List.take (W.length-16) (List.drop 16 W)=List.drop 16 W:=cE pu;have a5:=Hq b3;have a8:=Hq c2;have r2:=dP;clear b3 c2 a4;go_wp2_with fail;clear b0;go_loopw [5] (λvw wr=>∃(r:Nat) (U:Lb),r<=n/\vw= .string ⟨U.toArray⟩/\Hid (U=W.drop (16*(r+1)))/\U.length+16*r=16*n/\Hid (BB wr B (mR W r a))/\Hid (y.grownBy wr (some B))) (λvw _=>match vw with| .string b=>b.size|_=>0)
 case atStart=>exact ⟨0,W.drop 16,pm,rfl,Hq rfl,by rw[aR,f.out];omega,Hq a5.out,Hq a8.out⟩
 case round=>
  clear a5 a8;obtain ⟨r,U,e8,rfl,k,d8,hB,s⟩:=hrel;by_cases e6:r<n
  ·have a3:U≠[]:=by intro e;subst e;simp at d8;omega
   have q1:(!U.isEmpty)=true:=by simpa using a3
   have q2:U.isEmpty=false:=by simpa using a3
   have es:=GO W a o.out r (by rw[f.out];omega);have a7:=Hq es;have d9:=(d6 wr s.out).out;clear es a3;go_wp2_with fail;refine (Wq wr B T 0 dL (mR W r a) hB.out a7.out (λd g=>(d7 d (ai s.out g)).out)).mono ?_;rintro e w2 ⟨rfl,b4,c3⟩;have c9:=Hq b4;have d3:=Hq (ai s.out c3);clear b4 c3 d9;go_wp2_with fail;refine (TX w2 B 1 _ c9.out (by rw[cY];exact a7.out) pm).mono ?_;rintro e w3 ⟨rfl,b5,c4⟩;have a6:=Hq b5;have a9:=Hq (ai d3.out c4);clear b5 c4;have b0:List.take (U.length-16) (List.drop 16 U)=List.drop 16 U:=cE pu;have c8:16<=U.length:=pm;have c7:Hid (U.drop 16=W.drop (16*(r+1+1))):=Hq (by rw[k.out,vx];congr 1);by_cases b1:16<U.length
   ·have a2:Hid (mR W (r+1) a=cH (sJ [2,3,1,1] (qz 1 ((mR W r a).map dL))) U):=Hq (by rw[mR,zS,av (by rw[<-aR,<-k.out];exact b1),k.out])
    have q3:(16:Int)<(U.length:Int):=pm;go_wp2_with fail;refine (TN w3 B [2,3,1,1] _ a6.out (uK _ _) rfl).mono ?_;rintro e w4 ⟨rfl,b6,c5⟩;have c':=Hq b6;have d4:=Hq (ai a9.out c5);clear b6 c5;go_wp2_with fail;refine (Ga w4 B _ U c'.out (vS _ _) c8 (by have:=f.out;omega)).mono ?_;rintro e w5 ⟨rfl,h,m⟩;have I:=Hq h;have J:=Hq (ai d4.out m);clear h m;go_wp2;go_roundw
    case rel=>exact ⟨r+1,U.drop 16,pm,rfl,c7,by rw[aR];omega,Hq (by rw[a2.out];exact I.out),J⟩
    case measure=>simp[ByteArray.size];omega
   have a2:Hid (mR W (r+1) a=cH (qz 1 ((mR W r a).map dL)) U):=Hq (by rw[mR,zS,au (by rw[<-aR,<-k.out];exact b1),k.out])
   have q3:¬(16:Int)<(U.length:Int):=pm;go_wp2_with fail;refine (Ga w3 B _ U a6.out (uK _ _) c8 (by have:=f.out;omega)).mono ?_;rintro e w5 ⟨rfl,h,m⟩;have I:=Hq h;have J:=Hq (ai a9.out m);clear h m;go_wp2;go_roundw
   case rel=>exact ⟨r+1,U.drop 16,pm,rfl,c7,by rw[aR];omega,Hq (by rw[a2.out];exact I.out),J⟩
   case measure=>simp[ByteArray.size];omega
  obtain rfl:r=n:=pm
  obtain rfl:U=[]:=pG pm;have e1:=nJ (BB.zG hB.out) 16;rw[GO W a o.out r (by have:=f.out;omega)]at e1;have HG:=Hq (cJ d2.out s.out e3);go_wp2;go_ret;exact ⟨rfl,HG.out⟩
def Ig(key:Lb):Bool:=decide (key.length=16\/key.length=32)
def Vg w key:Calls prog 199 #[S key] w λe w'=>e= .returned (.bool (Ig key))/\w=w':=by
 unfold Ig S;by_cases a:key.length=16
 ·have q:((key.length:Int)==16)=true:=pp
  rw[tK (Or.inl a)];clear a;go_enter func199,ntmps199;go_wp2;go_ret;exact ⟨rfl,rfl⟩
 have q:((key.length:Int)==16)=false:=pp
 by_cases b:key.length=32
 ·have c:((key.length:Int)==32)=true:=pp
  rw[tK (Or.inr b)];clear a b;go_enter func199,ntmps199;go_wp2;go_ret;exact ⟨rfl,rfl⟩
 have c:((key.length:Int)==32)=false:=pp
 rw[BQ pm];clear a b;go_enter func199,ntmps199;go_wp2;go_ret;exact ⟨rfl,rfl⟩
def Cg(w:World)(key:Lb)(e:Ending)(w':World):Prop:=∃C T,e= .returned (.pointer (some ⟨C,0,none⟩))/\qT w' C T (oW key)/\jZ w' T/\w.heap.size<=C/\w.heap.size<=T/\w.grownBy w' none
def Gb w (key:Lb)(b:key.length=16\/key.length=32):
 Calls prog 149 #[S key] w (Cg w key):=by
 have H:=Hq (show Ig key=true from tK b);have c:=Hq b;clear b;unfold S;go_enter func149,ntmps149;go_wp2_with fail;refine (Vg w key).mono ?_;rintro e h ⟨rfl,rfl⟩;rw[H.out];go_wp2_with fail;refine (Vp _).mono ?_;rintro e h ⟨T,rfl,j,f,g⟩;have d:=Hq f;clear f;go_wp2_with fail;refine ax (UW h T (key.length/4) key d.out (by have:=c.out;omega) (by have:=c.out;omega)) λk a=>?_;unfold S;go_wp2;go_ret;exact ⟨_,T,rfl,aO k _,(d.out.kept a nofun).kept (aT _ _ none) nofun,(ai g a).size,j,aF (ai g a) _⟩
def iR(w:World)(C T:Nat)(key:Lb):Prop:=qT w C T (oW key)/\jZ w T
def iR.kept {key}(h:iR w C T key)(g:w.grownBy w' none):iR w' C T key:=⟨ab.kept h.1 g nofun,h.2.kept g nofun⟩
def MM w (C T:Nat)(key a:Lb)(h:iR w C T key)(b:key.length=32)(c:a.length=16):
 Calls prog 98 #[.pointer (some ⟨C,0,none⟩),S a] w λe w'=>e= .returned (S (nK key a))/\w.grownBy w' none:=
 UT w C T (key.length/4+6) (oW key) a h.1 h.2 c (by rw[(MR key (Or.inr b)).1]) pm pm
def LI w (C T n:Nat)(key c:Lb)(h:iR w C T key)(hk:key.length=32)(z:c.length=12)(a6:n<4294967296):
 Calls prog 207 #[.agg #[.pointer (some ⟨C,0,none⟩),S c], .int .i64 n] w (Grown (S (fG key c n)) w):=by
 obtain ⟨B,f⟩:=kq w.heap.size;obtain ⟨y,d⟩:=kq (w.alloc (.cells #[.pointer (some ⟨C,0,none⟩),S c] 237));have k:w.grownBy y none:=by rw[d];exact aF (ak w none) _
 have k0:y.cell? ⟨B,0,none⟩=some (.pointer (some ⟨C,0,none⟩)):=by rw[d,f,cK (aO w _)];rfl
 have k1:y.cell? ⟨B,1,none⟩=some (S c):=by rw[d,f,cK (aO w _)];rfl
 have a5:B<y.heap.size:=by rw[d,f];simp
 have U:=Hq (h.kept k);have a1:=Hq k;have HN:=Hq z;have s:fG key c n=nK key (c++bo n 4):=rfl;have lb:(c++bo n 4).length=16:=by rw[aK,fw,z]
 have o:∀W:World,∃v j,(convert 9 83 (.string ⟨c.toArray⟩)).run prog W= .ok v j/\dJ j W.heap.size v c/\W.grownBy j none:=λW=>JJ W c (by unfold maxLen;omega);have I:∀(W:World) (b:Nat) (v:Value),dJ W b v c->b<=W.heap.size->Calls prog 70 #[v, .int .u64 n, .int .i64 4] W (Kf W b (c++bo n 4)):=λW b v h1 h2=>Tn W b v c n 4 h1 pm pm pm h2;have J:∀W:World,iR W C T key->Calls prog 98 #[.pointer (some ⟨C,0,none⟩),S (c++bo n 4)] W λe w'=>e= .returned (S (fG key c n))/\W.grownBy w' none:=λW hW=>by rw[s];exact MM W C T key _ hW hk lb
 have e1:IntKind.u64.wrap (n:Int)=(n:Int):=dE _ pm;generalize fG key c n=V at*;generalize c++bo n 4=X at*;have HY:=Hq d;have HB:=Hq f;clear d f s lb k h;unfold S at*;go_enter func207,ntmps207;go_wp2_with fail;rw[<-HB.out,<-HY.out];obtain ⟨v,x,a8,t,u⟩:=o y.drew;have g:y.grownBy x none:=ai (aM (ak y none)) u;have m0:=g.cell (a:=⟨B,0,none⟩) k0 nofun
 have a0:=Hq g;have P:=Hq (show dJ x y.heap.size v c from t);have a2:=Hq (show y.heap.size<=x.heap.size from g.size);clear o u g t;go_region_with
  (first
   |(go_at_call 70;(with_reducible refine (I _ _ _ P.out a2.out).mono ?_);rintro e w7 ⟨t1,rfl,a3,q⟩;have a7:=GG a3;have n0:=(q.cell (p:=⟨B,0,none⟩) a5).trans m0;have m:=Hq (iU (r:=none) ((ql a0.out _ (bm _) pu).trans q)))
   |(go_at_call 98;(with_reducible refine (J _ (U.out.kept m.out)).mono ?_);rintro e w8 ⟨rfl,a4⟩))
 all_goals
  have R:=ai (ai a1.out m.out) a4;go_wp2;go_ret;exact ⟨rfl,R⟩
def pQ.grown {b:Nat}(h:pQ B b l w)(g:w.grownBy w' none):pQ B b l w':=by
 rcases h with⟨a,v,c,e,d⟩|⟨a,v,c,e,d⟩
 ·exact Or.inl ⟨a,v,rv g c nofun,tF e g (by cases v.ownBlock<;>simp),d⟩
 exact Or.inr ⟨a,v,rv g c nofun,tF e g (by cases v.ownBlock<;>simp),d⟩
def iR.below {key}(h:iR w C T key)(a:C<n)(b:T<n)(g:Below n w w'):iR w' C T key:=by refine ⟨?_,h.2.below b g⟩;unfold qT ab;rw[g.block C a];exact h.1
def LQ w (C T:Nat)(key a s:Lb)(h:iR w C T key)(hk:key.length=32)(hn:a.length=12)(hs:s.length<=2016):
 Calls prog 158 #[.agg #[.pointer (some ⟨C,0,none⟩),S a],S s] w (Grown (S (jN key a s)) w):=by
 have c7:=ab.lt h.1;have c8:=mI.lt h.2;obtain ⟨B,c⟩:=kq w.heap.size;obtain ⟨y,o⟩:=kq (w.alloc (.cells #[.pointer (some ⟨C,0,none⟩),S a] 237));obtain ⟨x,j⟩:=kq (y.alloc (.cells #[.pointer none, .slice none 0 0] 169));have a0:y.heap.size=B+1:=by rw[o,c];simp
 have P:w.grownBy x none:=by rw[j,o];exact aF (aF (ak w none) _) _
 have k0:x.cell? ⟨B,0,none⟩=some (.pointer (some ⟨C,0,none⟩)):=by rw[j,o,c,cK (cG (aO w _))];rfl
 have k1:x.cell? ⟨B,1,none⟩=some (S a):=by rw[j,o,c,cK (cG (aO w _))];rfl
 have q:pQ (B+1) (B+1) [] x:=by have:=SZ y (B+1) pm;rw[a0]at this;rw[j];exact this
 have a':B+1<=x.heap.size:=by rw[j];simp;omega
 have b5:=Hq (h.kept P);have b6:=Hq P;have b7:=Hq k0;have b8:=Hq k1;have b9:=Hq a';have a1:=Hq q;have b4:B=w.heap.size:=c;have r:=Hq c;have HY:=Hq o;have HX:=Hq j;have b':=Hq a0;have a9:jN key a s=[]++rq key a (s.length+1) 2 s:=rfl;generalize jN key a s=V at*;have HR:=Hq a9;have r2:=dP;clear j o a0 P k0 k1 q a' h c b4 a9;unfold S;go_enter func158,ntmps158;go_wp2_with fail;have u:=HX.out;rw[HY.out]at u;unfold S at u;rw[<-u,<-r.out];clear u HX HY b';go_loopw [1,6,7] (λvs vn v7 wr=>∃(f m:Nat) (U d:Lb),vn= .int .i64 m/\vs= .string ⟨U.toArray⟩/\Hid (V=d++rq key a f m U)/\Hid (U.length<=16*f)/\d.length+U.length<=2016/\m+U.length<=10000/\Hid (pQ (B+1) (B+1) d wr)/\Hid (Below (B+1) x wr)) (λvs _ _ _=>match vs with| .string b=>b.size|_=>0)
 case atStart=>exact ⟨s.length+1,2,s,[],rfl,rfl,HR,Hq pm,by simpa using hs,pm,a1,Hq (qS _ _)⟩
 case round=>
  clear HR a1;obtain ⟨f,m,U,d,rfl,rfl,t,hf,c9,hm,q,c⟩:=hrel;have R:=Hq (bJ b9.out c.out.size);by_cases k:U=[]
  ·subst k;rw[XO,ev]at t;have A9:∀W:World,pQ (B+1) (B+1) d W->B+1<=W.heap.size->Calls prog 114 #[.pointer (some ⟨B+1,0,none⟩)] W λe w'=>e= .returned (.string ⟨d.toArray⟩)/\Below (B+1) W w':=λW I J=>Builder_String_any (B+1) (B+1) d W I J;go_wp2_with fail;refine ax (A9 _ q.out R.out) λw9 a3=>?_;have HF:=Hq (c.out.trans a3);clear a3 A9;go_wp2;go_ret;exact ⟨by rw[t.out];rfl,iU ((ql b6.out _ (bm _) pu).trans (HF.out.mono (by have:=r.out;omega)))⟩
  have q1:(!U.isEmpty)=true:=by simpa using k
  have q2:U.isEmpty=false:=by simpa using k
  have d1:0<U.length:=tE.2 k;have a4:=zV key a m hk hn;have v:=oq U (fG key a m);have a6:=Hq (XP U (fG key a m) a4);obtain ⟨g,rfl⟩:∃g,f=g+1:=by have:=hf.out;exact ⟨f-1,pm⟩
  have c3:=Hq (show V=(d++cH U (fG key a m))++rq key a g (m+1) (U.drop 16)from by rw[t.out,rq,au k,dM])
  have A1:∀W:World,iR W C T key->Calls prog 207 #[.agg #[.pointer (some ⟨C,0,none⟩),S a], .int .i64 m] W (Grown (S (fG key a m)) W):=λW hW=>LI W C T m key a hW hk hn pm;have A2:∀W:World,Calls prog 202 #[S U,S (fG key a m)] W (vF (S (cH U (fG key a m))) W):=λW=>EF W U (fG key a m) pm pm;have A3:∀W:World,pQ (B+1) (B+1) d W->B+1<=W.heap.size->Calls prog 112 #[.pointer (some ⟨B+1,0,none⟩),S (cH U (fG key a m))] W λe w'=>e= .returned (.tuple #[.int .i64 (cH U (fG key a m)).length, .nilIface])/\pQ (B+1) (B+1) (d++cH U (fG key a m)) w'/\Below (B+1) W w':=λW I J=>Ta (B+1) (B+1) d _ W I (by rw[v];omega) J;have d2:List.take (U.length-(cH U (fG key a m)).length) (List.drop (cH U (fG key a m)).length U)=List.drop (cH U (fG key a m)).length U:=cE pu;have c':(cH U (fG key a m)).length<=U.length:=by rw[v];omega
  have c4:(d++cH U (fG key a m)).length+(U.drop (cH U (fG key a m)).length).length<=2016:=by rw[aK,aR];omega
  have d0:1<=(cH U (fG key a m)).length:=by rw[v];omega
  have c0:=(c.out.cell (p:=⟨B,0,none⟩) (BO B)).trans b7.out;have c1:=(c.out.cell (p:=⟨B,1,none⟩) (BO B)).trans b8.out;have c2:=Hq (b5.out.below (n:=B+1) (by have:=r.out;omega) (by have:=r.out;omega) c.out);have c6:=Hq (BO B);clear v a4 t k;generalize cH U (fG key a m)=X at*;generalize fG key a m=bl at*;unfold S vF at*;go_wp2_with fail;refine ax (A1 _ c2.out) λw2 a7=>?_;go_wp2_with fail;refine ax (A2 _) λw3 a8=>?_;have z:=Hq (ai a7 a8);have b2:=Hq (q.out.grown z.out);have b0:=Hq (c.out.trans (ql z.out (B+1) R.out pu));have c5:=Hq (bJ R.out z.out.size);clear a7 a8 A1 A2 c0 c1;go_wp2_with fail;refine (A3 _ b2.out c5.out).mono ?_;rintro e w4 ⟨rfl,a5,a2⟩;have b3:=Hq a5;have b1:=Hq (b0.out.trans a2);clear a5 a2 A3;go_wp2;go_roundw
  case rel=>exact ⟨g,m+1,U.drop X.length,d++X,by go_num,rfl,Hq (by rw[a6.out];exact c3.out),Hq (by rw[a6.out,aR];have:=hf.out;omega),c4,by rw[aR];omega,b3,b1⟩
  case measure=>simp[ByteArray.size];omega
def Gi w (C T:Nat)(key b more s:Lb)(h:iR w C T key)(k:key.length=32)(J:b.length=12)(hm:more.length<=2000)(hs:s.length<=2016):
 Calls prog 159 #[.agg #[.pointer (some ⟨C,0,none⟩),S b],S more,S s] w (Grown (S (jO key b more s)) w):=by
 obtain ⟨B,f⟩:=kq w.heap.size;obtain ⟨y,d⟩:=kq (w.alloc (.cells #[.pointer (some ⟨C,0,none⟩),S b] 237));have o:w.grownBy y none:=by rw[d];exact aF (ak w none) _
 have P:y.cell? ⟨B,0,none⟩=some (.pointer (some ⟨C,0,none⟩)):=by rw[d,f,cK (aO w _)];rfl
 have R:y.cell? ⟨B,1,none⟩=some (S b):=by rw[d,f,cK (aO w _)];rfl
 have x:=Hq (h.kept o);have a0:=Hq o;have I:jO key b more s=cH (uy (nK key (cI 16)) more s) (fG key b 1):=rfl;have le:=ML key (cI 16) (Or.inr k) (by simp[cI]);have lh:=NZ (nK key (cI 16)) more s;have lb:=zV key b 1 k J;have p:∀W:World,Calls prog 62 #[.string ⟨#[0]⟩, .int .i64 16] W (Grown (S (cI 16)) W):=λW=>yt W 16 pm;have q:∀W:World,iR W C T key->Calls prog 98 #[.pointer (some ⟨C,0,none⟩),S (cI 16)] W λe w'=>e= .returned (S (nK key (cI 16)))/\W.grownBy w' none:=λW m=>MM W C T key _ m k (by simp[cI]);have r:∀W:World,Calls prog 208 #[S (nK key (cI 16)),S more,S s] W λe w'=>e= .returned (.tuple #[S (uy (nK key (cI 16)) more s), .int .i64 0])/\W.grownBy w' none:=λW=>UY W _ more s le pm pm;have A4:∀W:World,iR W C T key->Calls prog 207 #[.agg #[.pointer (some ⟨C,0,none⟩),S b], .int .i64 1] W (Grown (S (fG key b 1)) W):=λW m=>LI W C T 1 key b m k J pm;have A5:∀W:World,Calls prog 202 #[S (uy (nK key (cI 16)) more s),S (fG key b 1)] W (vF (S (jO key b more s)) W):=λW=>by rw[I];exact EF W _ _ pm pm
 generalize jO key b more s=V at*;generalize uy (nK key (cI 16)) more s=H at*;generalize nK key (cI 16)=E at*;generalize fG key b 1=bl at*;generalize cI 16=z at*;have HY:=Hq d;have HB:=Hq f;clear d f I le lh lb o h;unfold S vF at*;go_enter func159,ntmps159;go_wp2_with fail;rw[<-HB.out,<-HY.out];go_region_with
  (first
   |(go_at_call 62;(with_reducible refine (p _).mono ?_);rintro e w3 ⟨rfl,c⟩;have G3:=aM c;have U:=c.cell (a:=⟨B,0,none⟩) P nofun;have m1:=c.cell (a:=⟨B,1,none⟩) R nofun;have t:=Hq (ai (aM (ak y none)) c))
   |(go_at_call 98;(with_reducible refine (q _ (x.out.kept t.out)).mono ?_);rintro e w4 ⟨rfl,g⟩;have n0:=g.cell (a:=⟨B,0,none⟩) U nofun;have n1:=g.cell (a:=⟨B,1,none⟩) m1 nofun;have u:=Hq (ai t.out g))
   |(go_at_call 208;(with_reducible refine (r _).mono ?_);rintro e w5 ⟨rfl,j⟩;have o0:=j.cell (a:=⟨B,0,none⟩) n0 nofun;have o1:=j.cell (a:=⟨B,1,none⟩) n1 nofun;have v:=Hq (ai u.out j)))
 all_goals
  clear j P R U m1 n0 n1 u g c p q r;go_wp2_with fail;refine ax (A4 _ (x.out.kept v.out)) λw6 a1=>?_;go_wp2_with fail;refine ax (A5 _) λw7 a2=>?_;have HF:=ai (ai (ai a0.out v.out) a1) a2;go_wp2;go_ret;exact ⟨rfl,HF⟩
def mj(key b more c:Lb)(a:Nat):Int:=if key.length=32/\b.length=12then(if more.length<=2000/\c.length<=a then 0 else 2)else 1
def CO w key nonce more text (f:Nat)(hm:f<=100000):
 Calls prog 157 #[S key,S nonce,S more,S text, .int .i64 f] w λe w'=>e= .returned (.int .i64 (mj key nonce more text f))/\w=w':=by
 obtain ⟨V,j⟩:=kq (mj key nonce more text f);rw[<-j];have a:=Hq j;clear j;unfold S;by_cases c:key.length=32
 ·have k:((key.length:Int) !=32)=false:=pp
  by_cases d:nonce.length=12
  ·have m:((nonce.length:Int) !=12)=false:=pp;by_cases g:more.length<=2000
   ·have o:decide ((2000:Int)<(more.length:Int))=false:=pp;by_cases h:text.length<=f
    ·have p:¬f<text.length:=pm;have b:=Hq (show V=0from by rw[a.out];unfold mj;rw[av ⟨c,d⟩,av ⟨g,h⟩]);clear c d g h a;go_enter func157,ntmps157;go_wp2;go_ret;exact ⟨by rw[b.out];rfl,rfl⟩
    have p:f<text.length:=pm;have b:=Hq (show V=2from by rw[a.out];unfold mj;rw[av ⟨c,d⟩,au pm]);clear c d g h a;go_enter func157,ntmps157;go_wp2;go_ret;exact ⟨by rw[b.out];rfl,rfl⟩
   have o:decide ((2000:Int)<(more.length:Int))=true:=pp;have b:=Hq (show V=2from by rw[a.out];unfold mj;rw[av ⟨c,d⟩,au pm]);clear c d g a;go_enter func157,ntmps157;go_wp2;go_ret;exact ⟨by rw[b.out];rfl,rfl⟩
  have m:((nonce.length:Int) !=12)=true:=pp
  have b:=Hq (show V=1from by rw[a.out];unfold mj;rw[au pm]);clear c d a;go_enter func157,ntmps157;go_wp2;go_ret;exact ⟨by rw[b.out];rfl,rfl⟩
 have k:((key.length:Int) !=32)=true:=pp
 have b:=Hq (show V=1from by rw[a.out];unfold mj;rw[au pm]);clear c a;go_enter func157,ntmps157;go_wp2;go_ret;exact ⟨by rw[b.out];rfl,rfl⟩
def NC(n:Int):Value:= .tuple #[S [], .int .i64 n]
def Ce(l:Lb)(w:World)(e:Ending)(w':World):Prop:=e= .returned (.tuple #[S l, .int .i64 0])/\w.grownBy w' none
def LP w (key b more c:Lb)(d:key.length=32)(g:b.length=12)(hm:more.length<=2000)(z:c.length<=2000):
 Calls prog 102 #[S key,S b,S more,S c] w (Ce (xY key b more c) w):=by
 have H:=Hq (show mj key b more c 2000=0from by unfold mj;rw[av ⟨d,g⟩,av ⟨hm,z⟩]);have v:xY key b more c=jN key b c++jO key b more (jN key b c):=rfl;generalize xY key b more c=V at*;have lc:=Hf key b c d g;have lt:=Dz key b more (jN key b c) d g;have o:∀W:World,Calls prog 149 #[S key] W (Cg W key):=λW=>Gb W key (Or.inr d);have p:∀(W:World) (C T:Nat),iR W C T key->Calls prog 158 #[.agg #[.pointer (some ⟨C,0,none⟩),S b],S c] W (Grown (S (jN key b c)) W):=λW C T m=>LQ W C T key b c m d g pm;have P:∀(W:World) (C T:Nat),iR W C T key->Calls prog 159 #[.agg #[.pointer (some ⟨C,0,none⟩),S b],S more,S (jN key b c)] W (Grown (S (jO key b more (jN key b c))) W):=λW C T m=>Gi W C T key b more _ m d g hm pm;generalize jO key b more (jN key b c)=TG at*;generalize jN key b c=R at*;have HV:=Hq v;have k1:R.length+TG.length<=9223372036854775807:=pm
 have r1:=eD;clear v lc lt;have U:=Hq (λW:World=>CO W key b more c 2000 pm);clear d g hm z;unfold S Ce at*;go_enter func102,ntmps102;go_wp2_with fail;refine (U.out _).mono ?_;rintro e w1 ⟨rfl,rfl⟩;rw[H.out];go_wp2_with fail;refine (o _).mono ?_;rintro e f ⟨C,T,rfl,t,u,a2,a3,a0⟩;have r:=Hq (show iR f C T key from⟨t,u⟩);clear t u o;go_wp2_with fail;obtain ⟨x,h⟩:=kq (f.alloc (.cells #[.pointer (some ⟨C,0,none⟩), .string ⟨b.toArray⟩] 237));obtain ⟨B,j⟩:=kq f.heap.size;have y:f.grownBy x none:=by rw[h];exact aF (ak f none) _
 have I:x.cell? ⟨B,0,none⟩=some (.pointer (some ⟨C,0,none⟩)):=by rw[h,j,cK (aO f _)];rfl
 have J:x.cell? ⟨B,1,none⟩=some (.string ⟨b.toArray⟩):=by rw[h,j,cK (aO f _)];rfl
 rw[<-h,<-j];have s:=Hq y;clear h j y;refine ax (p _ C T (r.out.kept s.out)) λw3 k=>?_;have m0:=k.cell (a:=⟨B,0,none⟩) I nofun
 have m1:=k.cell (a:=⟨B,1,none⟩) J nofun
 have q:=Hq (ai s.out k);clear I J k p;go_wp2_with fail;refine ax (P _ C T (r.out.kept q.out)) λw4 a1=>?_;have HF:=ai (ai a0 q.out) a1;go_wp2_with fail;rw[HV.out];go_ret2;exact ⟨rfl,HF⟩
def LO w (key b more a:Lb)(c:key.length=32)(d:b.length=12)(hm:more.length<=2000)(f:a.length<16):
 Calls prog 104 #[S key,S b,S more,S a] w λe w'=>e= .returned (NC 4)/\w=w':=by
 have H:=Hq (show mj key b more a 2016=0from by unfold mj;rw[av ⟨c,d⟩,av ⟨hm,pm⟩]);have q:(a.length:Int)<16:=pm
 clear c d hm f;unfold S NC;go_enter func104,ntmps104;go_wp2_with fail;refine (CO w key b more a 2016 pm).mono ?_;rintro e g ⟨rfl,rfl⟩;rw[H.out];go_wp2;go_ret2;exact ⟨rfl,rfl⟩
def LJ w (key b more c:Lb)(f:key.length=32)(h:b.length=12)(hm:more.length<=2000)(hc:c.length<=2000):
 Calls prog 104 #[S key,S b,S more,S (c++jO key b more c)] w (Ce (jN key b c) w):=by
 have lt:=Dz key b more c f h;have H:=Hq (show mj key b more (c++jO key b more c) 2016=0from by unfold mj;rw[av ⟨f,h⟩,av ⟨hm,by rw[aK];omega⟩]);have p:∀W:World,Calls prog 149 #[S key] W (Cg W key):=λW=>Gb W key (Or.inr f);have P:∀(W:World) (C T:Nat),iR W C T key->Calls prog 158 #[.agg #[.pointer (some ⟨C,0,none⟩),S b],S c] W (Grown (S (jN key b c)) W):=λW C T o=>LQ W C T key b c o f h pm;have q:∀(W:World) (C T:Nat),iR W C T key->Calls prog 159 #[.agg #[.pointer (some ⟨C,0,none⟩),S b],S more,S c] W (Grown (S (jO key b more c)) W):=λW C T o=>Gi W C T key b more _ o f h hm pm;generalize jO key b more c=u at*;generalize jN key b c=CT at*;obtain ⟨U,g⟩:=kq (c++u);rw[<-g]at H⊢;have lU:U.length=c.length+16:=by rw[g,aK,lt]
 have tU:U.take c.length=c:=by rw[g,yZ]
 have dU:(U.drop c.length).take (U.length-c.length)=u:=by rw[g,List.drop_left,cE (by rw[aK];omega)]
 have n1:¬((U.length:Int)<16):=pm
 have e1:((U.length:Int)-16)=(c.length:Int):=pm
 have e2:(0:Int)<=(c.length:Int):=pm
 have e3:(c.length:Int)<=(U.length:Int):=pm
 have e4:IntKind.i64.wrap (c.length:Int)=(c.length:Int):=dG _ pm;have r2:=dP;have R:=Hq (λW:World=>CO W key b more U 2016 pm);clear g f h hm lt lU hc;unfold S Ce at*;go_enter func104,ntmps104;go_wp2_with fail;refine (R.out _).mono ?_;rintro e w1 ⟨rfl,rfl⟩;rw[H.out];go_wp2_with fail;refine (p _).mono ?_;rintro e d ⟨C,T,rfl,v,y,a2,a3,a0⟩;have s:=Hq (show iR d C T key from⟨v,y⟩);clear v y p;go_wp2_with fail;obtain ⟨x,j⟩:=kq (d.alloc (.cells #[.pointer (some ⟨C,0,none⟩), .string ⟨b.toArray⟩] 237));obtain ⟨B,k⟩:=kq d.heap.size;have z:d.grownBy x none:=by rw[j];exact aF (ak d none) _
 have I:x.cell? ⟨B,0,none⟩=some (.pointer (some ⟨C,0,none⟩)):=by rw[j,k,cK (aO d _)];rfl
 have J:x.cell? ⟨B,1,none⟩=some (.string ⟨b.toArray⟩):=by rw[j,k,cK (aO d _)];rfl
 rw[<-j,<-k];have t:=Hq z;clear j k z
 go_quiet (fail)
 go_wp2_with fail;refine ax (q _ C T (s.out.kept (iT t.out _))) λw3 m=>?_;have m0:=m.cell (a:=⟨B,0,none⟩) I nofun
 have m1:=m.cell (a:=⟨B,1,none⟩) J nofun
 have r:=Hq (ai (iT t.out _) m);clear I J m q;go_wp2_with fail;refine ax (P _ C T (s.out.kept r.out)) λw4 a1=>?_;have HF:=ai (ai a0 r.out) a1;go_wp2;go_ret2;exact ⟨rfl,HF⟩
def LM w (key b more c t:Lb)(g:key.length=32)(m:b.length=12)(hm:more.length<=2000)(hc:c.length<=2000)(lt:t.length=16)(o:t≠jO key b more c):
 Calls prog 104 #[S key,S b,S more,S (c++t)] w (Grown (.tuple #[S [], .int .i64 6]) w):=by
 have a0:=Dz key b more c g m;have H:=Hq (show mj key b more (c++t) 2016=0from by unfold mj;rw[av ⟨g,m⟩,av ⟨hm,by rw[aK];omega⟩]);have p:∀W:World,Calls prog 149 #[S key] W (Cg W key):=λW=>Gb W key (Or.inr g);have r:∀(W:World) (C T:Nat),iR W C T key->Calls prog 159 #[.agg #[.pointer (some ⟨C,0,none⟩),S b],S more,S c] W (Grown (S (jO key b more c)) W):=λW C T hW=>Gi W C T key b more _ hW g m hm pm;generalize jO key b more c=y at*;obtain ⟨U,f⟩:=kq (c++t);rw[<-f]at H⊢;have lU:U.length=c.length+16:=by rw[f,aK,lt]
 have tU:U.take c.length=c:=by rw[f,yZ]
 have dU:(U.drop c.length).take (U.length-c.length)=t:=by rw[f,List.drop_left,cE (by rw[aK];omega)]
 have n1:¬((U.length:Int)<16):=pm
 have e1:((U.length:Int)-16)=(c.length:Int):=pm
 have e2:(0:Int)<=(c.length:Int):=pm
 have e3:(c.length:Int)<=(U.length:Int):=pm
 have e4:IntKind.i64.wrap (c.length:Int)=(c.length:Int):=dG _ pm;have r2:=dP;have q:(y==t)=false:=by rw[dC];exact λe=>o e.symm
 have q2:(y !=t)=true:=by rw[dY];exact λe=>o e.symm
 have HC:=Hq (λW:World=>CO W key b more U 2016 pm);clear f g m hm lt lU hc o a0;unfold S Grown at*;go_enter func104,ntmps104;go_wp2_with fail;refine (HC.out _).mono ?_;rintro e w1 ⟨rfl,rfl⟩;rw[H.out];go_wp2_with fail;refine (p _).mono ?_;rintro e d ⟨C,T,rfl,z,I,a1,a2,J⟩;have u:=Hq (show iR d C T key from⟨z,I⟩);clear z I p;go_wp2_with fail;obtain ⟨x,h⟩:=kq (d.alloc (.cells #[.pointer (some ⟨C,0,none⟩), .string ⟨b.toArray⟩] 237));obtain ⟨B,j⟩:=kq d.heap.size;have P:d.grownBy x none:=by rw[h];exact aF (ak d none) _
 have R:x.cell? ⟨B,0,none⟩=some (.pointer (some ⟨C,0,none⟩)):=by rw[h,j,cK (aO d _)];rfl
 have k2:x.cell? ⟨B,1,none⟩=some (.string ⟨b.toArray⟩):=by rw[h,j,cK (aO d _)];rfl
 rw[<-h,<-j];have v:=Hq P;clear h j P
 go_quiet (fail)
 go_wp2_with fail;refine ax (r _ C T (u.out.kept (iT v.out _))) λw3 k=>?_;have m0:=k.cell (a:=⟨B,0,none⟩) R nofun
 have m1:=k.cell (a:=⟨B,1,none⟩) k2 nofun
 have s:=Hq (ai (iT v.out _) k);clear R k2 k r;have HF:=Hq (ai J s.out);clear J s u;go_wp2;go_ret2;exact ⟨rfl,HF.out⟩
end
end Go.Proofs.YtmomfbkpniblgaaGreatDoor
