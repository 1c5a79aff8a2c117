/- A part of this claim's proof. -/
import Derived.Test.YtmomfbkpniblgaaGreatDoorYj14
import Derived.Deep.RegionWith
import Derived.Test.YtmomfbkpniblgaaGreatDoorYj17
set_option linter.all false
set_option maxHeartbeats 4000000
set_option maxRecDepth 20000
namespace Go.Proofs.YtmomfbkpniblgaaGreatDoor
open Go.Proofs.Tryz
variable {l:Ln}{B o:Nat}{w w':World}
section
open Go.RowKit
def oO(K:Lb):Nat->Ln
 |0=>[1634760805,857760878,2036477234,1797285236,0,0,0,0,0,0,0,0,0,0,0,0]
 |i+1=>(oO K i).set (4+i) (aQ ((K.drop (4*i)).take 4))
def begun(K:Lb):Ln:=oO K 12
def Ou (l:Lb):aQ (l.take 4)<4294967296:=by
 refine fW (wh _) ?_;have:(l.take 4).length<=4:=by rw[aJ];omega
 exact (lI pm this:256^(l.take 4).length<=256^4)
def ra K (i:Nat):Small (oO K i)/\(oO K i).length=16:=by
 induction i with
 |zero=>
  refine ⟨λj=>?_,rfl⟩;unfold oO;by_cases h:j<16
  ·have:∀j,j<16->List.getD [1634760805,857760878,2036477234,1797285236,0,0,0,0,0,0,0,0,0,0,0,0] j 0<4294967296:=ut;exact this j h
  rw[dh,eE pp];decide
 |succ i a=>exact ⟨zX a.1 _ _ (Ou _),by rw[oO,gL];exact a.2⟩
def Lq w (k r:Lb)(c:(k++r).length=48):
 Calls prog 254 #[S k,S r] w λe w'=>e= .returned (jU (begun (k++r)))/\w.grownBy w' none:=by
 have b3:k.length+r.length<=9223372036854775807:=by rw[aK]at c;omega
 obtain ⟨K,j⟩:=kq (k++r);rw[<-j]at c⊢;have u:=Hq c;have a2:=Hq j;have s:=Hq (show jU (begun K)= .agg ((oO K 12).map dg).toArray from rfl);generalize hV:jU (begun K)=V at*;clear c j hV;have r1:=eD;have r2:=dP;unfold S;go_enter func254,ntmps254;go_wp2_with fail;rw[<-a2.out];generalize g:(w.alloc (.cells tY 335)).alloc (.cells #[Value.int IntKind.u32 1634760805,Value.int IntKind.u32 857760878,Value.int IntKind.u32 2036477234,Value.int IntKind.u32 1797285236,Value.int IntKind.u32 0,Value.int IntKind.u32 0,Value.int IntKind.u32 0,Value.int IntKind.u32 0,Value.int IntKind.u32 0,Value.int IntKind.u32 0,Value.int IntKind.u32 0,Value.int IntKind.u32 0,Value.int IntKind.u32 0,Value.int IntKind.u32 0,Value.int IntKind.u32 0,Value.int IntKind.u32 0] 335)=x;obtain ⟨B,b⟩:=kq w.heap.size;have z:ab x B 335 tB:=by rw[<-g,b];exact cG (aO w _)
 have C:WB x (B+1) (oO K 0):=by have:=aO (w.alloc (.cells tY 335)) (.cells #[Value.int IntKind.u32 1634760805,Value.int IntKind.u32 857760878,Value.int IntKind.u32 2036477234,Value.int IntKind.u32 1797285236,Value.int IntKind.u32 0,Value.int IntKind.u32 0,Value.int IntKind.u32 0,Value.int IntKind.u32 0,Value.int IntKind.u32 0,Value.int IntKind.u32 0,Value.int IntKind.u32 0,Value.int IntKind.u32 0,Value.int IntKind.u32 0,Value.int IntKind.u32 0,Value.int IntKind.u32 0,Value.int IntKind.u32 0] 335);rw[show(w.alloc (.cells tY 335)).heap.size=B+1from by rw[b];simp]at this;rw[<-g];exact this
 have P:w.grownBy x none:=by rw[<-g];exact aF (aF (ak w none) _) _
 have a':w.heap.size<=B:=pm
 rw[<-b];have y:=Hq z;have HG:=Hq P;clear g b z P;go_loopw [6,7] (λq vt wr=>∃(i:Nat) (T:Lb),i<=12/\q= .int .i64 i/\vt=S T/\Hid (T=K.drop (4*i))/\T.length+4*i<=48/\48<=T.length+4*i/\WB wr (B+1) (oO K i)/\x.grownBy wr (some (B+1))) (λq _ _=>12-(intOf q).toNat)
 case atStart=>exact ⟨0,K,pm,rfl,rfl,by rw[vz,oA];rfl,by have:=u.out;omega,by have:=u.out;omega,C,ak _ _⟩
 case round=>
  clear C;obtain ⟨i,T,hi,rfl,rfl,I,t1,t2,a,d⟩:=hrel;by_cases b4:i<12
  ·have l4:4<=T.length:=pm;have a0:T≠[]:=by intro e;subst e;simp at l4
   have q1:(!T.isEmpty)=true:=by simpa using a0
   have q2:T.isEmpty=false:=by simpa using a0
   have e4:List.take (T.length-4) (List.drop 4 T)=List.drop 4 T:=cE pu;have l8:(T.take 4).take 8=T.take 4:=(by rw[ku];rfl);have a9:(T.take 4).length<=140737488355328:=(by rw[aJ];omega);have hN:=Ou T;have b0:=a.cell (4+i) (by rw[(ra K i).2];omega);have b2:=a.frozen (4+i);have HN:=Hq (show aQ (T.take 4)=aQ ((K.drop (4*i)).take 4)from by rw[I.out]);have ec:∀n:Nat,n<4294967296->(n:Int)%4294967296=(n:Int):=λn h=>by omega
   unfold S;go_wp2_with fail;refine (qG _ (T.take 4) a9).mono ?_;rintro e w1 ⟨rfl,rfl⟩;rw[l8];have b1:((aQ (T.take 4):Nat):Int)%4294967296=((aQ (T.take 4):Nat):Int):=pm;clear ec l8;generalize aQ (T.take 4)=N at*;have a8:WB (wr.setCell ⟨B+1,4+i,none⟩ (.int .u32 N)) (B+1) (oO K (i+1)):=by rw[oO,<-HN.out];exact a.set (4+i) N
   have a7:=aw d (4+i) (.int .u32 N);go_wp2_with fail;go_region;go_wp2;go_roundw
   case rel=>exact ⟨i+1,T.drop 4,pm,by go_num,rfl,by rw[I.out,vx];rfl,by rw[aR];omega,by rw[aR];omega,a8,aM a7⟩
   case measure=>simp[intOf];omega
  obtain rfl:i=12:=pm
  obtain rfl:T=[]:=pG pm;have f:=(ra K 12).2;obtain ⟨L,m⟩:=kq (oO K 12);rw[<-m]at f a;have a3:=Hq (show V= .agg (L.map dg).toArray from by rw[s.out,m]);clear m s;have a5:ab wr (B+1) 335 (L.map dg):=a;have J:=(y.out).kept d pu;have p:(prog.info? 335).map (·.size)=some (L.map dg).length:=by rw[cY,f];exact sY
  have R:(prog.info? 335).map (·.size)=some (L.map dg).toArray.size:=by rw[qM];exact p
  have U:wr.there B 0 (L.map dg).toArray.size:=J.there _ (by simp[tB,f]);have t:=Hq p;have a1:=Hq R;have HT:=Hq U;have a4:=Hq a5.range;clear p R U J;unfold S;go_upto_region 6with(fail);refine oB ?_;refine wpList_load_mid rfl 335 _ rfl (B+1) 0 rfl (L.map dg) _ a4.out underlying335 rfl t.out ?_;refine wpList_store_mid rfl 335 _ _ rfl B 0 (L.map dg).toArray rfl rfl HT.out a1.out (Rh _) ?_;refine oD ?_;have hW:=((y.out).kept d pu).store (L.map dg) (by simpa[tB]using f);have a6:w.grownBy (wr.setCells B 0 (L.map dg).toArray.toList) none:=uu (cJ HG.out d pm) B pm _ _;go_wp2_with fail;refine bodyPost_ret (v:= .agg (L.map dg).toArray) (uJ results254 _ _ B rfl (L.map dg) _ hW underlying335 rfl t.out) rfl ?_;exact ⟨by rw[a3.out],a6⟩
def iZ(l:Ln):Lb:=l.flatMap λn=>aP n 4
def yH l:(iZ l).length=4*l.length:=by
 induction l with
 |nil=>rfl
 |cons n l a=>simp only[iZ,ox,aK,gE,eI]at a⊢;omega
def abi (l:Ln)(n:Nat):iZ (l++[n])=iZ l++aP n 4:=by simp[iZ]
def mL(w:World)(B o:Nat)(l:Ln):Prop:=∀i,(h:i<l.length)->w.cell? ⟨B,o+i,none⟩=some (.int .u32 (l[i]:Nat))
def mL.kept {r:Option Nat}(h:mL w B o l)(g:w.grownBy w' r)(c:some B≠r):mL w' B o l:=λi b=>g.cell (a:=⟨B,o+i,none⟩) (h i b) c
def mL.below {n:Nat}(h:mL w B o l)(g:Below n w w')(b:B<n):mL w' B o l:=λi a=>(g.cell (p:=⟨B,o+i,none⟩) b).trans (h i a)
def Ft(l:Lb)(w:World)(e:Ending)(w':World):Prop:=e= .returned (S l)/\Below w.heap.size w w'
def GD w (B o u:Nat) l (h:mL w B o l)(J:l.length<=16)(q:∀n∈l,n<4294967296)(y:B<w.heap.size):
 Calls prog 256 #[.slice (some ⟨B,o,none⟩) l.length u] w (Ft (iZ l) w):=by
 have d:=λj=>(yH (l.take j));have k:iZ (l.take l.length)=iZ l:=by rw[pK]
 have r:=Hq k;have s:=Hq d;have t:=Hq q;clear q d k;go_enter func256,ntmps256;go_wp2_with fail;go_loopw [3,8] (λC c wr=>∃j:Nat,j<=l.length/\c= .int .i64 j/\dq wr w.heap.size C (iZ (l.take j))/\Below w.heap.size w wr) (λ_ c _=>l.length-(intOf c).toNat)
 case atStart=>exact ⟨0,pm,rfl,mO _ _,qS _ _⟩
 case round=>
  obtain ⟨j,I,rfl,b,HB⟩:=hrel;by_cases a:j<l.length
  ·have x:=(h.below HB y) j a;have P:=t.out l[j] (iE a);have z:=Hq (show iZ (l.take (j+1))=iZ (l.take j)++aP l[j] 4from by rw[fP a,abi]);have m:(iZ (l.take j)).length+8<=140737488355328:=(by rw[s.out,aJ];omega);have g:=HB.size;have v:IntKind.u64.wrap ((l[j]:Nat):Int)=((l[j]:Nat):Int):=dE _ pm;go_wp2_with fail;refine (pD wr w.heap.size u3 _ l[j] 4 b pm pm m g).mono ?_;rintro e U ⟨R,rfl,p,f⟩;rw[<-z.out]at p;replace HB:=HB.trans f;clear b x f g m v;go_wp2;go_roundw
   case rel=>exact ⟨j+1,pm,by go_num,p,HB⟩
   case measure=>simp[intOf];omega
  obtain rfl:j=l.length:=pm
  have i:=jL b;rw[r.out]at i;unfold S at i;go_wp2;go_ret;exact ⟨rfl,HB⟩
def qb(key a:Lb)(b:Nat):Int:=if key.length=32/\a.length=b then 0 else 1
def Gc w (key a:Lb)(b:Nat)(k:key.length<=9223372036854775807)(m:a.length<=9223372036854775807)(n:b<=100):
 Calls prog 204 #[S key,S a, .int .i64 b] w λe w'=>e= .returned (.int .i64 (qb key a b))/\w=w':=by
 obtain ⟨V,h⟩:=kq (qb key a b);rw[<-h];have c:=Hq h;clear h;unfold S;by_cases f:key.length=32
 ·by_cases g:a.length=b
  ·have i:((key.length:Int) !=32)=false:=pp;have j:((a.length:Int) !=(b:Int))=false:=pp;have d:=Hq (show V=0from by rw[c.out];unfold qb;rw[av ⟨f,g⟩]);clear f g c;go_enter func204,ntmps204;go_wp2;go_ret;exact ⟨by rw[d.out];rfl,rfl⟩
  have i:((key.length:Int) !=32)=false:=pp
  have j:((a.length:Int) !=(b:Int))=true:=pp
  have d:=Hq (show V=1from by rw[c.out];unfold qb;rw[au pm]);clear f g c;go_enter func204,ntmps204;go_wp2;go_ret;exact ⟨by rw[d.out];rfl,rfl⟩
 have i:((key.length:Int) !=32)=true:=pp
 have d:=Hq (show V=1from by rw[c.out];unfold qb;rw[au pm]);clear f c;go_enter func204,ntmps204;go_wp2;go_ret;exact ⟨by rw[d.out];rfl,rfl⟩
def oJ(a b:Ln):Ln:=List.zipWith kC a b
def wM(key rest:Lb):Ln:=begun (key++rest)
def FT(s:Ln):Ln:=oJ (px s) s
def iL(key a:Lb)(n:Nat):Lb:=iZ (FT (wM key (aP n 4++a)))
def Tj {s}(b:Small s)(a:s.length=16):(FT s).length=16:=by have:=(wD b a 10).2;unfold FT oJ px;rw[wZ,this,a];rfl
def FR key nonce (n:Nat):(iL key nonce n).length=64:=by unfold iL;rw[yH,Tj (s:=wM key (aP n 4++nonce)) (ra _ 12).1 (ra _ 12).2]
def lY(l:Lb)(w:World)(e:Ending)(w':World):Prop:=e= .returned (.tuple #[S l, .int .i64 0])/\w.grownBy w' none
def qe(v s:Ln):Nat->Ln
 |0=>v
 |k+1=>(qe v s k).set k (kC (v.getD k 0) (s.getD k 0))
def Mt v s (k:Nat):(qe v s k).length=v.length:=by
 induction k with
 |zero=>rfl
 |succ k a=>rw[qe,gL,a]
def QQ v s (k:Nat):∀j,(qe v s k)[j]?=if j<k then(v[j]?).map (λx=>kC x (s.getD j 0))else v[j]?:=by
 induction k with
 |zero=>intro j;simp[qe]
 |succ k a=>
  intro j;rw[qe,qN];by_cases e:k=j
  ·subst e;rw[av rfl,Mt,av (show k<k+1 by omega)];by_cases q:k<v.length
   ·simp[q,List.getD]
   simp[q]
  rw[au e,a];by_cases q:j<k
  ·rw[av q,av pm]
  rw[au q,au pm]
def WE (v s:Ln)(h:v.length=s.length):qe v s v.length=oJ v s:=by
 apply oy;intro j;rw[QQ,oJ,List.getElem?_zipWith];by_cases q:j<v.length
 ·rw[av q];have a:j<s.length:=pm
  simp[aW q,aW a,List.getD]
 rw[au q,eE pm]
def aaW (v s:Ln)(k:Nat)(a:k<v.length):(qe v s k).getD k 0=v.getD k 0:=by rw[dh,QQ,au pm,dh]
def Lr w (key f:Lb)(n:Nat)(I:key.length=32)(p:f.length=12)(d2:n<4294967296):
 Calls prog 205 #[S key,S f, .int .u32 n] w (lY (iL key f n) w):=by
 have hc:qb key f 12=0:=by unfold qb;rw[av ⟨I,p⟩]
 have HC:=Hq hc;obtain ⟨d,t⟩:∃s,s=wM key (aP n 4++f):=⟨_,rfl⟩;have a6:iL key f n=iZ (oJ (px d) d):=by rw[t];rfl
 have a0:Small d:=by rw[t];exact (ra _ 12).1
 have r:d.length=16:=by rw[t];exact (ra _ 12).2
 obtain ⟨v,u⟩:=kq (px d);have d5:Small v:=by rw[u];exact (wD a0 r 10).1
 have b7:v.length=16:=by rw[u];exact (wD a0 r 10).2
 rw[a6,<-u];have c4:=Hq (show jU (begun (key++(aP n 4++f)))=jU d from by rw[t];rfl);have HV:=Hq (show jU (px d)=jU v from by rw[u]);have b2:(key++(aP n 4++f)).length=48:=by simp[gE,I,p]
 have HL:=Hq b2;have b8:=Hq (gE n 4);have lk:key.length<=32:=pm
 have ln:f.length<=12:=pm
 clear hc t a6 u b2 I p;have r1:=eD;have e1:IntKind.u64.wrap (n:Int)=(n:Int):=dE _ pm;unfold S;go_enter func205,ntmps205;go_wp2_with fail;refine (Gc w key f 12 pm pm pm).mono ?_;rintro e w1 ⟨rfl,rfl⟩;rw[HC.out];go_wp2_with fail;refine (pD w w.heap.size (.slice none 0 0) [] n 4 (mO _ _) pm pm pu pm).mono ?_;rintro e w1 ⟨b1,rfl,b4,a2⟩;have J:=jL b4;rw[kP]at J;have c9:(aP n 4).length+f.length<=9223372036854775807:=by rw[b8.out];omega
 unfold S at J;have a7:w.grownBy w1 none:=iU a2;clear b4 a2;go_wp2_with fail;clear J c9;refine ax (Lq w1 key (aP n 4++f) HL.out) λj a8=>?_;rw[c4.out];have h:=ai a7 a8;clear a7 a8;unfold jU;have c':=λW:World=>yz (P:=prog) W tY 335 (d.map dg) (by simp[r]) (JR d);go_upto_region 5with(fail);clear c' e1;have z:ab (j.alloc (.cells (d.map dg).toArray 335)) j.heap.size 335 (d.map dg):=ab.new j _ _;have R:w.grownBy (j.alloc (.cells (d.map dg).toArray 335)) none:=aF h _;have d6:w.heap.size<=j.heap.size:=h.size;generalize j.alloc (.cells (d.map dg).toArray 335)=x at*;generalize j.heap.size=B at*;clear h;have b0:(prog.info? 335).map (·.size)=some (d.map dg).length:=by rw[cY,r];exact sY
 have a1:=Hq z.range;have HI:=Hq b0;clear b0;refine oB ?_;refine wpList_load_mid rfl 335 _ rfl B 0 rfl (d.map dg) _ a1.out underlying335 rfl HI.out ?_;go_wp2_with fail;refine ax (Mk x d r a0) λx3 q=>?_;rw[HV.out];unfold jU;have d0:=λW:World=>yz (P:=prog) W tY 335 (v.map dg) (by simp[b7]) (JR v);go_upto_region 6with(fail);clear d0;have a3:=(z.kept q pu).kept (aT x3 (.cells (v.map dg).toArray 335) none) pu;have a4:ab (x3.alloc (.cells (v.map dg).toArray 335)) x3.heap.size 335 (v.map dg):=ab.new x3 _ _;have a':w.grownBy (x3.alloc (.cells (v.map dg).toArray 335)) none:=aF (ai R q) _;have d1:w.heap.size<=x3.heap.size:=(ai R q).size;have d4:B<x3.heap.size:=(z.kept q pu).lt;generalize x3.alloc (.cells (v.map dg).toArray 335)=y at*;generalize x3.heap.size=C at*;clear q R z a1;have b9:=Hq a3;have b':=Hq a4;have c0:=Hq a';clear a3 a4 a';go_wp2_with fail
 go_loopw [28] (λvi wr=>∃k:Nat,k<=16/\vi= .int .i64 k/\WB wr C (qe v d k)/\y.grownBy wr (some C)) (λvi _=>16-(intOf vi).toNat)
 case atStart=>exact ⟨0,pm,rfl,b'.out,ak _ _⟩
 case round=>
  obtain ⟨k,I,rfl,g,h⟩:=hrel;by_cases d3:k<16
  ·have hS:WB wr B d:=(b9.out).kept h pp;have c1:=g.cell k (by rw[Mt];omega);have c2:=hS.cell k pm;have f1:=g.frozen k;rw[aaW v d k pm]at c1;have b3:WB (wr.setCell ⟨C,k,none⟩ (.int .u32 (kC (v.getD k 0) (d.getD k 0):Nat))) C (qe v d (k+1)):=g.set k _;have a9:y.grownBy (wr.setCell ⟨C,k,none⟩ (.int .u32 (kC (v.getD k 0) (d.getD k 0):Nat))) (some C):=aw h k _;have ha:=zt (v.getD k 0) (d.getD k 0);generalize v.getD k 0=a at*;generalize d.getD k 0=b at*;generalize kC a b=c at*;have m:=Hq (And.intro b3 a9);clear b3 a9 hS g;go_wp2_with fail;go_region;go_wp2;go_roundw
   case rel=>exact ⟨k+1,pm,by go_num,by first|exact m.out.1|(rw[<-ha]at m;exact m.out.1),by first|exact aM m.out.2|(rw[<-ha]at m;exact aM m.out.2)⟩
   case measure=>simp[intOf];omega
  obtain rfl:k=16:=pm
  have b6:qe v d 16=oJ v d:=by rw[<-b7];exact WE v d pm
  rw[b6]at g;have a5:(oJ v d).length=16:=by unfold oJ;rw[wZ];omega
  have b5:∀n∈oJ v d,n<4294967296:=by intro n p;unfold oJ at p;obtain ⟨i,U,rfl⟩:=Bz p;rw[Bv];exact dQ _ pm
  have c7:mL wr C 0 (oJ v d):=λi U=>by have:=g.cell i U;rw[ef,this,dh,aW U];rfl
  have c8:=cJ c0.out h d1;have c6:C<wr.heap.size:=kE g;have HA:=Hq a5;have c3:=Hq b5;clear b6 a5 b5 g h;generalize oJ v d=L at*;go_wp2_with fail;have hT:=GD wr C 0 16 L c7 (by rw[HA.out];omega) c3.out c6;rw[HA.out]at hT;refine ax hT λw5 c5=>?_;unfold S;go_wp2;go_ret2;exact ⟨rfl,ai c8 (iU c5)⟩
def Aq(n:Nat):Nat:=(n+1)%4294967296
def rj(key a:Lb):Nat->Nat->Lb->Lb
 |0,_,_=>[]
 |f+1,n,s=>if s=[]then []else cH s (iL key a n)++rj key a f (Aq n) (s.drop 64)
def jk(key a:Lb)(n:Nat)(s:Lb):Lb:=rj key a (s.length+1) n s
def TD key nonce (f n:Nat):rj key nonce f n []=[]:=by cases f<;>simp[rj]
def Lh key nonce:∀(f n:Nat) (s:Lb),s.length<=64*f->(rj key nonce f n s).length=s.length
 |0,_,s,h=>by obtain rfl:s=[]:=pG pm;rfl
 |f+1,n,s,h=>by
  unfold rj;by_cases e:s=[]
  ·simp[e]
  rw[au e,aK,Lh key nonce f _ (s.drop 64) (by rw[aR];omega),oq,FR,aR];omega
def CK key nonce (n:Nat) s:(jk key nonce n s).length=s.length:=Lh _ _ _ _ _ pm
def WY (s b:Lb)(a:b.length=64):s.drop (cH s b).length=s.drop 64:=by
 rw[oq,a];rcases eR s.length 64with h|h
 ·rw[iF pm,tI,iP pm]
 rw[xf h]
def Ly w (key a s:Lb)(n:Nat)(k:key.length=32)(p:a.length=12)(U:n<4294967296)(hs:s.length<=2000):
 Calls prog 155 #[S key,S a, .int .u32 n,S s] w (lY (jk key a n s) w):=by
 have v:qb key a 12=0:=by unfold qb;rw[av ⟨k,p⟩]
 have J:=Hq v;have P:=Hq k;have R:=Hq p;have I:jk key a n s=[]++rj key a (s.length+1) n s:=rfl;generalize jk key a n s=V at*;have t:=Hq I;have lk:key.length<=32:=pm
 have ln:a.length<=12:=pm
 clear v k p I;have r1:=eD;have r2:=dP;have hd:decide (2000<(s.length:Int))=false:=pp
 unfold S;go_enter func155,ntmps155;go_wp2_with fail;refine (Gc w key a 12 pm pm pm).mono ?_;rintro e w1 ⟨rfl,rfl⟩;rw[J.out];go_wp2_with fail;go_loopw [2,3,11] (λvn r vo wr=>∃(f m:Nat) (T c:Lb),vn= .int .u32 m/\m<4294967296/\r=S T/\vo=S c/\Hid (V=c++rj key a f m T)/\Hid (T.length<=64*f)/\c.length+T.length<=2000/\w.grownBy wr none) (λ_ r _ _=>match r with| .string b=>b.size|_=>0)
 case atStart=>exact ⟨s.length+1,n,s,[],rfl,U,rfl,rfl,t.out,by show s.length<=64*(s.length+1);omega,by simpa using hs,ak _ _⟩
 case round=>
  clear t;obtain ⟨f,m,T,c,rfl,a4,rfl,rfl,h,y,a6,j⟩:=hrel;by_cases d:T=[]
  ·subst d;rw[TD,ev]at h;unfold S;go_wp2;go_ret2;exact ⟨by rw[h.out];rfl,j⟩
  have q1:(!T.isEmpty)=true:=by simpa using d
  have q2:T.isEmpty=false:=by simpa using d
  have a9:0<T.length:=tE.2 d;have i:=FR key a m;have q:=oq T (iL key a m);have x:=Hq (WY T (iL key a m) i);obtain ⟨g,rfl⟩:∃g,f=g+1:=by have:=y.out;exact ⟨f-1,pm⟩
  have a2:=Hq (show V=(c++cH T (iL key a m))++rj key a g (Aq m) (T.drop 64)from by rw[h.out,rj,au d,dM])
  have a8:(cH T (iL key a m)).length<=T.length:=by rw[q];omega
  have a7:0<(cH T (iL key a m)).length:=by rw[q,i];omega
  have a5:c.length+(cH T (iL key a m)).length<=9223372036854775807:=pm
  have a1:=Hq (show((m:Int)+1)%4294967296=((Aq m:Nat):Int)from by unfold Aq;omega);have a':List.take (T.length-(cH T (iL key a m)).length) (List.drop (cH T (iL key a m)).length T)=List.drop (cH T (iL key a m)).length T:=cE pu;have u:(iL key a m).length<=140737488355328:=pm
  have a3:(c++cH T (iL key a m)).length+(T.drop (cH T (iL key a m)).length).length<=2000:=by rw[aK,aR];omega
  clear q i h d;unfold S;go_wp2_with fail;refine ax (Lr _ key a m P.out R.out a4) λw2 z=>?_;unfold S;go_wp2_with fail;refine ax (EF w2 T (iL key a m) pm u) λw3 C=>?_;have a0:=ai (ai j z) C;clear j z C u;generalize cH T (iL key a m)=X at*;unfold S;go_wp2_with fail;rw[a1.out];go_roundw
  case rel=>exact ⟨g,Aq m,T.drop X.length,c++X,rfl,dQ _ pm,rfl,rfl,by rw[x.out];exact a2,by rw[x.out,aR];have:=y.out;show T.length-64<=64*g;omega,a3,a0⟩
  case measure=>simp[ByteArray.size];omega
def jA(key a:Lb):Lb:=iZ ((px (wM key a)).take 4)++iZ ((px (wM key a)).drop 12)
def aaQ key nonce:(px (wM key nonce)).length=16:=(wD (ra _ 12).1 (ra _ 12).2 10).2
def QP key nonce:(jA key nonce).length=32:=by unfold jA;rw[aK,yH,yH,aJ,aR,aaQ];rfl
def QF (h:Small l)(n:Nat)(b:n∈l):n<4294967296:=by obtain ⟨i,a,rfl⟩:=Bz b;have:=h i;rwa[dh,aW a]at this
end
section
def nM(s:Lb):Lb:=s++cI ((16-s.length%16)%16)
def js(key a more s:Lb):Lb:=yG ((iL key a 0).take 32) (nM more++nM s++(aP more.length 8++aP s.length 8))
def wF(key a more b:Lb):Lb:=jk key a 1 b++js key a more (jk key a 1 b)
def MY s:(nM s).length<=s.length+15:=by unfold nM;rw[aK,Bh];omega
def aba k t:(yG k t).length=16:=by unfold yG;rw[aK,gE,gE]
def Ek key nonce more s:(js key nonce more s).length=16:=aba _ _
def Qj key nonce more text:(wF key nonce more text).length=text.length+16:=by unfold wF;rw[aK,Ek,CK]
end
section
open Go.RowKit
def Ml w (key a:Lb)(t:key.length=32)(c:a.length=16):
 Calls prog 287 #[S key,S a] w (lY (jA key a) w):=by
 have hc:qb key a 16=0:=by unfold qb;rw[av ⟨t,c⟩]
 have HC:=Hq hc;obtain ⟨d,f⟩:∃s,s=wM key a:=⟨_,rfl⟩;have u:Small d:=by rw[f];exact (ra _ 12).1
 have x:d.length=16:=by rw[f];exact (ra _ 12).2
 obtain ⟨v,g⟩:=kq (px d);have z:Small v:=by rw[g];exact (wD u x 10).1
 have I:v.length=16:=by rw[g];exact (wD u x 10).2
 have a2:jA key a=iZ (v.take 4)++iZ (v.drop 12):=by rw[g,f];rfl
 rw[a2];have a7:=Hq (show jU (begun (key++a))=jU d from by rw[f];rfl);have HV:=Hq (show jU (px d)=jU v from by rw[g]);have HL:=Hq (show(key++a).length=48from by simp[t,c]);have J:(v.take 4).length=4:=by rw[aJ];omega
 have R:(v.drop 12).length=4:=by rw[aR];omega
 have a5:∀n∈v.take 4,n<4294967296:=λn c=>QF z n (Bt c);have a6:∀n∈v.drop 12,n<4294967296:=λn c=>QF z n (List.mem_of_mem_drop c);have b2:(iZ (v.take 4)).length=16:=by rw[yH,J]
 have b3:(iZ (v.drop 12)).length=16:=by rw[yH,R]
 have lk:key.length<=32:=pm
 have ln:a.length<=16:=pm
 have b:=Hq (And.intro J (And.intro R (And.intro a5 a6)));have h:=Hq I;clear hc f a2 g t c J R a5 a6 z;unfold S;go_enter func287,ntmps287;go_wp2_with fail;refine (Gc w key a 16 pm pm pm).mono ?_;rintro e w1 ⟨rfl,rfl⟩;rw[HC.out];go_wp2_with fail;refine ax (Lq w key a HL.out) λw2 hg=>?_;rw[a7.out];unfold jU;go_wp2_with fail;refine ax (Mk w2 d x u) λx3 a3=>?_;rw[HV.out];unfold jU;have b1:=λW:World=>yz (P:=prog) W tY 335 (v.map dg) (by simp[I]) (JR v);go_upto_region 5with(fail);clear b1 I;have m:WB (x3.alloc (.cells (v.map dg).toArray 335)) x3.heap.size v:=ab.new x3 _ _;have a4:w.grownBy (x3.alloc (.cells (v.map dg).toArray 335)) none:=aF (ai hg a3) _;have a1:x3.heap.size<(x3.alloc (.cells (v.map dg).toArray 335)).heap.size:=pu
 generalize x3.alloc (.cells (v.map dg).toArray 335)=y at*;generalize x3.heap.size=C at*;clear hg a3;have U:mL y C 0 (v.take 4):=λi r=>by rw[b.out.1]at r;have:=m.cell i (by rw[h.out];omega);rw[ef,this,dh,aW (by rw[h.out];omega),Fe];rfl
 have a0:mL y C 12 (v.drop 12):=λi r=>by rw[b.out.2.1]at r;have:=m.cell (12+i) (by rw[h.out];omega);rw[this,dh,aW (by rw[h.out];omega),vh];rfl
 have A1:∀W,mL W C 0 (v.take 4)->C<W.heap.size->Calls prog 256 #[.slice (some ⟨C,0,none⟩) 4 16] W (Ft (iZ (v.take 4)) W):=λW j k=>by have:=GD W C 0 16 (v.take 4) j (by rw[b.out.1];omega) b.out.2.2.1 k;rw[b.out.1]at this;exact this
 have A2:∀W,mL W C 12 (v.drop 12)->C<W.heap.size->Calls prog 256 #[.slice (some ⟨C,12,none⟩) 4 4] W (Ft (iZ (v.drop 12)) W):=λW j k=>by have:=GD W C 12 4 (v.drop 12) j (by rw[b.out.2.1];omega) b.out.2.2.2 k;rw[b.out.2.1]at this;exact this
 have a8:mL y.drew C 0 (v.take 4):=U;have a9:mL y.drew C 12 (v.drop 12):=a0;have p:C<y.drew.heap.size:=a1;have b0:w.grownBy y.drew none:=aM a4;clear m U a0 a4 a1;have r1:=eD;go_region_with
  (first
   |(go_at_call 256;(with_reducible refine (A1 _ a8 p).mono ?_);rintro e w4 ⟨rfl,q⟩;unfold S)
   |(go_at_call 256;(with_reducible refine (A2 _ (a9.below q p) (fW p q.size)).mono ?_);rintro e w5 ⟨rfl,a'⟩;unfold S))
 all_goals
  go_wp2;go_ret2;exact ⟨rfl,ai (ai b0 (iU q)) (iU a')⟩
end
end Go.Proofs.YtmomfbkpniblgaaGreatDoor
