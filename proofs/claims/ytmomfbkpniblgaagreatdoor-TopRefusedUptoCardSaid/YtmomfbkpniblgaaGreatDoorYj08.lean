/- A part of this claim's proof. -/
import Derived.Test.YtmomfbkpniblgaaGreatDoorYj05
import Derived.Test.YtmomfbkpniblgaaGreatDoorYjShelf
import Derived.Laws.IdiomStrings
import Derived.Test.YtmomfbkpniblgaaGreatDoorYj04
import Derived.Laws.BitsAllLaws
import Derived.StillTailTactics
import Derived.Great.Walk
import Derived.Deep.QuietTactic
import Derived.BigQuiet
import Derived.ArgAppend
set_option linter.all false
set_option maxHeartbeats 4000000
set_option maxRecDepth 20000
namespace Go.Proofs.YtmomfbkpniblgaaGreatDoor
open Go.Proofs.Tryz
variable {cs l r:Lb}{L s:Ln}{B P V a a0 a1 a2 a3 a4 a5 a6 a7 base' c d i j k m n x:Nat}{t:TypeId}{u v:Value}{w w':World}
section
open Go.RowKit
def cI(n:Nat):Lb:=List.replicate n 0
def gY(l:Lb)(n:Nat):Lb:=l.take n++cI (n-l.length)
def Js l (n:Nat):(gY l n).length=n:=by unfold gY cI;rw[aK,aJ,wW];omega
def Bh (n:Nat):(cI n).length=n:=by simp[cI]
def U2 (n:Nat):Lib.repeatL [0] n=cI n:=by
 induction n with
 |zero=>rfl
 |succ n b=>show [0]++Lib.repeatL [0] n=_;rw[b];rfl
def eD (a b:Lb):ByteArray.mk a.toArray++ByteArray.mk b.toArray=⟨(a++b).toArray⟩:=by rw[ByteArray.mk_append_mk]
def dP (l:Lb)(a b:Nat):(ByteArray.mk l.toArray).extract a b=⟨((l.drop a).take (b-a)).toArray⟩:=by apply ByteArray.ext;rw[ByteArray.data_extract];apply Array.toList_inj.1;simp
def ZR (s:ByteArray):∃l:Lb,s=⟨l.toArray⟩/\l.length=s.size:=⟨s.data.toList,rfl,by rw[rT];rfl⟩
def Grown(v:Value)(w:World)(e:Ending)(w':World):Prop:=e= .returned v/\w.grownBy w' none
def yt w (n:Nat)(e:n<=140737488355328):Calls prog 62 #[.string ⟨#[0]⟩,ar n] w (Grown (S (cI n)) w):=by refine ax (Tryz.strings_Repeat ⟨#[0]⟩ n w pm (by simpa[ByteArray.size]using e)) λw' b=>?_;refine ⟨?_,iU b⟩;rw[show(ByteArray.mk #[0]).data.toList=[0]from rfl,U2];rfl
def gM(w:World)(b:Nat)(l:Lb):Prop:=∀i (h:i<l.length),w.cell? ⟨b,i,none⟩=some (aB (l[i].toNat))/\w.frozen? ⟨b,i,none⟩=false
def gM.cell {b:Nat}(h:gM w b l)(i:Nat)(e:i<l.length):w.cell? ⟨b,i,none⟩=some (aB (l[i].toNat)):=(h i e).1
def gM.frozen {b:Nat}(h:gM w b l)(i:Nat)(e:i<l.length):w.frozen? ⟨b,i,none⟩=false:=(h i e).2
def gM.kept {b:Nat}{r:Option Nat}(h:gM w b l)(q:b<w.heap.size)(g:w.grownBy w' r)(o:some b≠r):gM w' b l:=by intro i y;have e:=g.block b q o;obtain ⟨p,f⟩:=h i y;refine ⟨g.cell (a:=⟨b,i,none⟩) p o,?_⟩;unfold World.frozen? at f⊢;simp only at f⊢;rwa[e]
def gM.drew {b:Nat}(h:gM w b l):gM w.drew b l:=h
def gM.set {b:Nat}(h:gM w b l)(k:Nat)(c:UInt8)(I:k<l.length):gM (w.setCell ⟨b,k,none⟩ (aB c.toNat)) b (l.set k c):=by
 intro i y;rw[gL]at y;obtain ⟨g,z⟩:=h i y;refine ⟨?_,by rw[World.frozen?_setCell];exact z⟩;obtain ⟨p,_⟩:=h k I;unfold World.cell? at g p⊢;simp only[World.setCell,Array.getElem?_modify]at g p⊢;simp only[sf];cases hb:w.heap[b]?with
 |none=>rw[hb]at g;simp at g
 |some o=>
  rw[hb]at g p;cases o with
  |cells cs t f=>
   simp only[qP,List.getElem_set]at g p⊢;have J:k<cs.size:=by
    rcases eR k cs.size with q|q
    ·exact q
    simp[tC q]at p
   have R:(none:Option Nat).isSome=false:=rfl;by_cases e:k=i
   ·subst e;simp[J]
   simp only[au e]at*;have C:cs[i]?=some (aB ↑l[i].toNat):=g;show(cs.setIfInBounds k _)[i]?=_;rw[Array.getElem?_setIfInBounds,au e,C]
  |_=>simp at g
def Ez (w:World)(l:Lb)(g:l.length<=9223372036854775807):
 ∃b w',(convert 9 83 (.string ⟨l.toArray⟩)).run prog w= .ok (.slice (some ⟨w.heap.size,0,none⟩) l.length b) w'/\l.length<=b/\w.grownBy w' none/\w.heap.size<w'.heap.size/\gM w' w.heap.size l:=by
 have h:=run_bytes_of_string (P:=prog) w 9 83 5 ⟨l.toArray⟩ underlying9 underlying83 underlying5;refine ⟨_,_,h,grownCap_ge _ _ _ _,aF (aM (ak _ _)) _,pu,λi e=>?_⟩;have f:∀o:Obj,(w.drew.alloc o).heap[w.heap.size]?=some o:=λo=>aO w.drew o;have p:i<(bytesRow ⟨l.toArray⟩ (grownCap w (ByteArray.size ⟨l.toArray⟩) 0 5)).size:=by unfold bytesRow;simp[ByteArray.size];omega
 constructor
 ·unfold World.cell?;simp only[f];unfold bytesRow;rw[Array.getElem?_append_left (by simpa using e)];simp[e]
 unfold World.frozen?;simp only[f,Bool.and_eq_false_iff,wV];left;omega
def nJ {b:Nat}(h:gM w b l)(f:Nat):(convert 83 9 (.slice (some ⟨b,0,none⟩) l.length f)).run prog w= .ok (.string ⟨l.toArray⟩) w:=by
 refine run_convert_bytes_back (P:=prog) w 83 9 5 ⟨b,0,none⟩ f l underlying83 underlying5 underlying9 λj g=>?_;have e:(⟨b,0,none⟩:Addr).add j=⟨b,j,none⟩:=by unfold Addr.add;split<;>simp_all
 rw[e];exact h.cell j g
def mW(f:UInt8->UInt8)(l:Lb)(i:Nat):Lb:=(l.map f).take i++l.drop i
def Zl (f:UInt8->UInt8) l:mW f l 0=l:=rfl
def Zi (f:UInt8->UInt8)(l:Lb)(n:Nat)(h:l.length=n):mW f l n=l.map f:=by subst h;unfold mW;rw[tI,ev,cE pu]
def Oi (f:UInt8->UInt8) l (i:Nat):(mW f l i).length=l.length:=by unfold mW;rw[aK,aJ,aR,cY];omega
def Zj (f:UInt8->UInt8)(l:Lb)(i:Nat)(h:i<l.length):(mW f l i)[i]'(by rw[Oi];exact h)=l[i]:=by unfold mW;rw[uV (by rw[aJ];omega)];simp[iF (pO h)]
def Zk (f:UInt8->UInt8)(l:Lb)(i:Nat)(h:i<l.length):(mW f l i).set i (f l[i])=mW f l (i+1):=by unfold mW;rw[kp _ _ (by rw[aJ];omega),aJ,cY,iF (pO h),il];have e:l.drop i=l[i]::l.drop (i+1):=jV h;rw[fP (by simpa using h)];simp;rw[e];rfl
def Y3 {P:Program}(w:World)(g R U h:TypeId)(b o f q:Nat)(l:Lb)
 (C:P.underlying g=some (.slice h)) (J:∀w,(Go.sizeOf h).run P w= .ok 1 w)
 (y:∀j,j<(l.take f).length->(w.cell? ⟨b,o+j,none⟩).isSome=true) (z:∀j,j<(l.take f).length->w.frozen? ⟨b,o+j,none⟩=false):
 (Builtin.copy_ #[g,R] U #[.slice (some ⟨b,o,none⟩) f q, .string ⟨l.toArray⟩]).run P w= .ok (goInt (Nat.min l.length f:Nat)) (w.setCells b o ((l.take f).map aS)):=by
 have p:=Br (P:=P) b o ((l.take f).map aS) 0 w (by rw[cY];simpa using y) (by rw[cY];simpa using z) (by intro v I;obtain ⟨x,_,rfl⟩:=eS.1 I;rfl)
 simp only[jY]at p;have e:(l.map λx=>Value.int IntKind.u8 (x.toNat:Int)).take (Nat.min l.length f)=(l.take f).map aS:=by rw[<-xq];show(l.take (min l.length f)).map aS=_;rw[Nat.min_comm,<-ku,pK]
 simp[Builtin.copy_,rV C,Builtin.lenOf,Builtin.firstCells,J];rw[show(ByteArray.mk l.toArray).size=l.length from by simp[ByteArray.size],e,p];simp only[rU,<-xq]
def cL(key:Lb)(c:UInt8):Lb:=(gY key 64).map λx=>x^^^c
def uH key (c:UInt8):(cL key c).length=64:=by unfold cL;rw[cY,Js]
def PB(w:World)(B:Nat)(l:Lb):Prop:=ab w B 239 (l.map aS)
def PB.zG (h:PB w B l):gM w B l:=λi b=>⟨by rw[ab.cell h,fQ,aW b];rfl,ab.frozen h i⟩
def YU:(prog.info? 5).map (·.size)=some 1:=qr
def Rw (a c:UInt8):bits .xor .u8 (a.toNat:Int) (c.toNat:Int)=(((a^^^c).toNat:Nat):Int):=by rw[xw _ _ (iO a) (iO c),xj]
def J3 (h:PB w B (cI 64))(key:Lb)(f:key.length<=64):PB (w.setCells B 0 ((key.take 64).map aS)) B (gY key 64):=by
 rcases yF B ((key.take 64).map aS) 0 w ((cI 64).map aS) 239 h with b|b
 ·have e:(((cI 64).map aS).take 0++(key.take 64).map aS++((cI 64).map aS).drop (0+((key.take 64).map aS).length)).take ((cI 64).map aS).length=(gY key 64).map aS:=by
   have g:(cI 64).drop key.length=cI (64-key.length):=by unfold cI;rw[List.drop_replicate]
   rw[rW,kP,ef,cY,cY,cE f,<-List.map_drop,g,<-jW,<-xq];unfold gY;rw[cE f,cE (by simp[cI];omega)]
  rw[e]at b;exact b
 exfalso;simp[cI]at b;omega
def ug w (key:Lb)(c:UInt8)(hk:key.length<=64):Calls prog 106 #[S key, .int .u8 c.toNat] w (Grown (S (cL key c)) w):=by
 obtain ⟨B,p⟩:=kq w.heap.size;obtain ⟨x,h⟩:=kq (w.alloc (.cells RT 239));have f:PB x B (cI 64):=by rw[h,p];exact aO _ _
 have b2:w.grownBy x none:=by rw[h];exact aF (ak w none) _
 have a':=Y3 (P:=prog) x 83 9 3 5 B 0 64 64 key underlying83 (λW=>QD YU W)
  (λj hj=>by rw[ef,ab.cell f j,aW (by rw[aJ]at hj;simp[cI];omega)];rfl) (λj hj=>ab.frozen f _)
 have e:=J3 f key hk;have z:w.grownBy (x.setCells B 0 ((key.take 64).map aS)) none:=uu b2 B pm _ _;obtain ⟨y,hy⟩:=kq (x.setCells B 0 ((key.take 64).map aS));rw[<-hy]at a' e z;have o:=Js key 64;have g:cL key c=mW (λx=>x^^^c) (gY key 64) 64:=by rw[Zi _ _ 64 o];rfl
 obtain ⟨V,hV⟩:=kq (cL key c);rw[<-hV]at g⊢;obtain ⟨l,hl⟩:=kq (gY key 64);rw[<-hl]at e o g;have b6:=Hq g;have R:=Hq e;have a8:=Hq z;have HX:=Hq h;have U:=Hq p;have a9:=Hq o;have b5:Hid (mW (λx=>x^^^c) l 0=l):=Hq (Zl _ _);clear p h f b2 e z hy o g hl hV;unfold S;go_enter func106,ntmps106;go_upto_region 2with(fail);rw[<-U.out,<-HX.out];go_upto_region 3with(fail);clear a';go_wp2_with fail;go_loopw [10] (λJ wr=>∃i:Nat,i<=64/\J= .int .i64 i/\Hid (PB wr B (mW (λx=>x^^^c) l i))/\Hid (w.grownBy wr none)) (λJ _=>64-(intOf J).toNat)
 case atStart=>exact ⟨0,pm,rfl,by rw[b5.out];exact R,a8⟩
 case round=>
  clear R a8;obtain ⟨i,hi,rfl,b,q⟩:=hrel;have I:(mW (λx=>x^^^c) l i).length=64:=by rw[Oi,a9.out]
  by_cases b4:i<64
  ·have b3:i<l.length:=by rw[a9.out];exact b4
   have ca:wr.cell? ⟨B,i,none⟩=some (.int .u8 (l[i].toNat)):=by rw[ab.cell b.out,fQ,aW pm,Zj _ _ _ b3];rfl
   have cf:wr.frozen? ⟨B,i,none⟩=false:=ab.frozen b.out i;have C:=ab.set b.out i (aS (l[i]^^^c));rw[<-pP,Zk (λx=>x^^^c) l i b3]at C;have xb:=Rw l[i] c;have HS:=Hq C;have HG:=Hq (cj q.out ⟨B,i,none⟩ (by have:=U.out;simp;omega) (aS (l[i]^^^c)));unfold aS at HS HG;clear C b q I;generalize (l[i]^^^c).toNat=n at*;generalize l[i].toNat=a at*;have hd:decide ((i:Int)<64)=true:=pp;go_wp2;go_roundw
   case rel=>exact ⟨i+1,pm,by go_num,HS,HG⟩
   case measure=>simp[intOf];omega
  obtain rfl:i=64:=pm
  have b0:=nJ (PB.zG b.out) 64;rw[I]at b0;rw[<-b6.out]at b0;clear b I b4;go_wp2;go_ret;exact ⟨rfl,q.out⟩
def bo(n many:Nat):Lb:=(List.range many).map λi=>UInt8.ofNat (n/2^(8*(many-1-i)))
def mH(w:World)(base:Nat)(l:Lb)(e:Ending)(w':World):Prop:=∃b,e= .returned b/\dq w' base b l/\Below base w w'
def fw (n many:Nat):(bo n many).length=many:=by simp[bo]
def FK (n many j:Nat)(h:j<many):(bo n many).take (j+1)=(bo n many).take j++[UInt8.ofNat (n/2^(8*(many-1-j)))]:=by rw[fP (by rw[fw];exact h)];simp[bo]
def pC w (base:Nat) v l (n:Nat)(many:Int)(b:dq w base v l)(hn:n<18446744073709551616)(hm:0<=many)(a8:many<=8)(R:l.length+8<=140737488355328)(I:base<=w.heap.size):
 Calls prog 70 #[v, .int .u64 n, .int .i64 many] w (mH w base (l++bo n many.toNat)):=by
 obtain ⟨k,rfl⟩:=Bo hm;rw[xe];go_enter func70,ntmps70;go_wp2;go_loopw [0,9] (λy e wr=>∃j:Nat,j<=k/\e= .int .i64 j/\dq wr base y (l++(bo n k).take j)/\Below base w wr) (λ_ e _=>k-(intOf e).toNat)
 case atStart=>exact ⟨0,pm,rfl,by simpa using b,qS _ _⟩
 case round=>
  obtain ⟨j,J,rfl,b,HB⟩:=hrel;have U:=fw n k;have p:=HB.size;by_cases q:j<k
  ·have h:=FK n k j q;have o:=Hq h;clear h;have z:0<=8*((k:Int)-1-j):=pm;have C:8*((k:Int)-1-j)<=64:=pm;go_wp2_with (at_builtin;go_must (refine KC rfl _ _ rfl base _ _ rfl b (UInt8.ofNat (n/2^(8*(k-1-j)))) _ ?c1 rfl pp pm ?_))
   case c1=>rw[<-Cq];simp
   intro v' w' g f;replace HB:=Pz HB b pm f;rw[<-o.out]at g;clear b f p;go_wp2;go_roundw
   case rel=>exact ⟨j+1,pm,by go_num,g,HB⟩
   case measure=>simp[intOf];omega
  obtain rfl:j=k:=pm
  go_wp2;go_ret;exact ⟨_,rfl,by rw[cE pm]at b;exact b,HB⟩
def aV(l:Lb):Nat:=l.foldl (λn c=>n*256+c.toNat) 0
def SD (l:Lb)(c:UInt8):aV (l++[c])=aV l*256+c.toNat:=by simp[aV,Ff]
def XI (l:Lb):∀a:Nat,l.foldl (λn c=>n*256+c.toNat) a+1<=(a+1)*256^l.length:=by
 induction l with
 |nil=>intro a;simp
 |cons c l b=>intro a;have h:=b (a*256+c.toNat);have e:=iO c;rw[List.foldl_cons,eI,je];refine bJ h ?_;rw[jH (256^l.length) 256,<-BV];exact wX _ pm
def ua (l:Lb):aV l<256^l.length:=by have:=XI l 0;simp only[aV];omega
def Sz (l:Lb)(h:l.length<=8):aV l<18446744073709551616:=
 fW (ua l) (lI pm h:256^l.length<=256^8)
def SE (l:Lb)(j:Nat)(b:j<l.length)(h:l.length<=8):aV (l.take j)<72057594037927936:=by refine fW (ua _) (lI pm ?_:256^(l.take j).length<=256^7);rw[aJ];omega
def I2 (N:Nat)(c:UInt8)(h:N<72057594037927936):bits .or .u64 ((N:Int)*256) (IntKind.u64.wrap (c.toNat:Int))=((N*256+c.toNat:Nat):Int):=by have e:=iO c;have b:IntKind.u64.wrap (c.toNat:Int)=((c.toNat:Nat):Int):=dE _ pm;rw[b,show((N:Int)*256)=((N*256:Nat):Int)from pu,tR _ _ pm pm,nat_join 8 _ _ pm pm]
end
section
def df(a b:Nat):Nat:=(a+b)%4294967296
def nk:Ln:=[
 0x428a2f98,0x71374491,0xb5c0fbcf,0xe9b5dba5,0x3956c25b,0x59f111f1,0x923f82a4,0xab1c5ed5,
 0xd807aa98,0x12835b01,0x243185be,0x550c7dc3,0x72be5d74,0x80deb1fe,0x9bdc06a7,0xc19bf174,
 0xe49b69c1,0xefbe4786,0x0fc19dc6,0x240ca1cc,0x2de92c6f,0x4a7484aa,0x5cb0a9dc,0x76f988da,
 0x983e5152,0xa831c66d,0xb00327c8,0xbf597fc7,0xc6e00bf3,0xd5a79147,0x06ca6351,0x14292967,
 0x27b70a85,0x2e1b2138,0x4d2c6dfc,0x53380d13,0x650a7354,0x766a0abb,0x81c2c92e,0x92722c85,
 0xa2bfe8a1,0xa81a664b,0xc24b8b70,0xc76c51a3,0xd192e819,0xd6990624,0xf40e3585,0x106aa070,
 0x19a4c116,0x1e376c08,0x2748774c,0x34b0bcb5,0x391c0cb3,0x4ed8aa4a,0x5b9cca4f,0x682e6ff3,
 0x748f82ee,0x78a5636f,0x84c87814,0x8cc70208,0x90befffa,0xa4506ceb,0xbef9a3f7,0xc67178f2]
def fj:Ln:=[0x6a09e667,0xbb67ae85,0x3c6ef372,0xa54ff53a,0x510e527f,0x9b05688c,0x1f83d9ab,0x5be0cd19]
def qu(x a b c:Nat):Nat:=(eG x (32-a)^^^eG x (32-b))^^^x/2^c
def ph(x a b c:Nat):Nat:=(eG x (32-a)^^^eG x (32-b))^^^eG x (32-c)
def rP(b:Lb)(l:Ln)(t:Nat):Nat:=
 if t<16then aV ((b.drop (4*t)).take 4)
 else df (df (df (l.getD (t-16) 0) (l.getD (t-7) 0)) (qu (l.getD (t-15) 0) 7 18 3)) (qu (l.getD (t-2) 0) 17 19 10)
def sched(b:Lb):Nat->Ln
 |0=>[]
 |t+1=>sched b t++[rP b (sched b t) t]
def uL b:∀t,(sched b t).length=t
 |0=>rfl
 |t+1=>by rw[sched,aK,uL b t];rfl
def Qx(v:Ln)(k w:Nat):Nat:=
 df (df (df (df (v.getD 7 0) (ph (v.getD 4 0) 6 11 25)) ((v.getD 4 0&&&v.getD 5 0)^^^((4294967295^^^v.getD 4 0)&&&v.getD 6 0))) k) w
def aaq(v:Ln):Nat:=
 df (ph (v.getD 0 0) 2 13 22) (((v.getD 0 0&&&v.getD 1 0)|||(v.getD 0 0&&&v.getD 2 0))|||(v.getD 1 0&&&v.getD 2 0))
def Ep(v:Ln)(k w:Nat):Ln:=
 [df (Qx v k w) (aaq v),v.getD 0 0,v.getD 1 0,v.getD 2 0,df (v.getD 3 0) (Qx v k w),v.getD 4 0,v.getD 5 0,v.getD 6 0]
def rL(b v:Ln):Nat->Ln
 |0=>v
 |t+1=>Ep (rL b v t) (nk.getD t 0) (b.getD t 0)
def tv(a b:Ln):Ln:=List.zipWith df a b
def lH(s:Ln)(b:Lb):Ln:=tv s (rL (sched b 64) s 64)
def Jo (e v:Ln)(b:v.length=8):∀t,(rL e v t).length=8
 |0=>b
 |t+1=>rfl
def JE (s:Ln) b (e:s.length=8):(lH s b).length=8:=by unfold lH tv;rw[wZ,Jo _ _ e,e];rfl
def ed:Nat->Ln->Lb->Ln×Lb
 |0,s,r=>(s,r)
 |f+1,s,r=>if 64<=r.length then ed f (lH s (r.take 64)) (r.drop 64)else(s,r)
def Cj:∀(f g:Nat) (s:Ln) (r:Lb),r.length<=64*f->r.length<=64*g->ed f s r=ed g s r
 |0,0,s,r,_,_=>rfl
 |0,g+1,s,r,h,_=>by rw[ed,ed,au pm]
 |f+1,0,s,r,_,h=>by rw[ed,ed,au pm]
 |f+1,g+1,s,r,b,e=>by
  rw[ed,ed];split
  ·exact Cj f g _ _ (by rw[aR];omega) (by rw[aR];omega)
  rfl
def Ko:∀(f g:Nat) (s:Ln) (r t:Lb),r.length<=64*f->r.length+t.length<=64*g->
 ed g s (r++t)=ed g (ed f s r).1 ((ed f s r).2++t)
 |0,g,s,r,t,b,e=>rfl
 |f+1,g,s,r,t,b,e=>by
  rw[ed];by_cases h:64<=r.length
  ·rw[av h];cases g with
   |zero=>omega
   |succ g=>
    rw[ed,av (by rw[aK];omega),Bl h,EJ h];rw[Ko f g _ _ t (by rw[aR];omega) (by rw[aR];omega)];refine Cj _ _ _ _ ?_ ?_
    ·have:((ed f (lH s (r.take 64)) (r.drop 64)).2).length<=(r.drop 64).length:=by
      clear e b;generalize lH s (r.take 64)=q;generalize r.drop 64=p;induction f generalizing q p with
      |zero=>exact bm _
      |succ f o=>
       rw[ed];split
       ·exact bJ (o _ _) (by rw[aR];omega)
       exact bm _
     rw[aR]at this;rw[aK];omega
    have:((ed f (lH s (r.take 64)) (r.drop 64)).2).length<=(r.drop 64).length:=by
     clear e b;generalize lH s (r.take 64)=q;generalize r.drop 64=p;induction f generalizing q p with
     |zero=>exact bm _
     |succ f o=>
      rw[ed];split
      ·exact bJ (o _ _) (by rw[aR];omega)
      exact bm _
    rw[aR]at this;rw[aK];omega
  rw[au h]
def Kp:∀(f:Nat) (s:Ln) (r:Lb),r.length<=64*f->(ed f s r).2.length<64
 |0,s,r,h=>by rw[ed];show r.length<64;omega
 |f+1,s,r,h=>by
  rw[ed];split
  ·exact Kp f _ _ (by rw[aR];omega)
  show r.length<64;omega
def Fw:∀(f:Nat) (s:Ln) (r:Lb),s.length=8->(ed f s r).1.length=8
 |0,s,r,h=>h
 |f+1,s,r,h=>by
  rw[ed];split
  ·exact Fw f _ _ (JE _ _ h)
  exact h
def jz(t:Lb):Ln×Lb:=ed (t.length+1) fj t
def Jr t:(jz t).2.length<64:=Kp _ _ _ pm
def Jq t:(jz t).1.length=8:=Fw _ _ _ rfl
def aap (t u:Lb):jz (t++u)=ed (u.length+1) (jz t).1 ((jz t).2++u):=by unfold jz;rw[Ko (t.length+1) ((t++u).length+1) fj t u pm (by rw[aK];omega)];have:=Jr t;unfold jz at this;refine Cj _ _ _ _ ?_ ?_<;>(rw[aK];(try rw[aK]);omega)
def Qy(r:Lb):Lb:=r++[128]++List.replicate ((119-r.length%64)%64) 0
def oU(s:Ln):Lb:=s.flatMap λn=>bo n 4
def AY(s:Ln)(r:Lb)(many:Nat):Lb:=oU (ed 2 s (Qy r++bo (8*many%18446744073709551616) 8)).1
def wI(t:Lb):Lb:=AY (jz t).1 (jz t).2 (t.length%18446744073709551616)
def My s:(oU s).length=4*s.length:=by
 unfold oU;induction s with
 |nil=>rfl
 |cons a s b=>rw[ox,aK,b,fw,eI];omega
def aan t:(wI t).length=32:=by unfold wI AY;rw[My,Fw _ _ _ (Jq t)]
end
section
open Go.RowKit
def aQ:Lb->Nat
 |[]=>0
 |c::l=>c.toNat+256*aQ l
def ZE (l:Lb)(c:UInt8):aQ (l++[c])=aQ l+c.toNat*256^l.length:=by
 induction l with
 |nil=>simp[aQ]
 |cons d l b=>simp only[pL,aQ,b,eI,je];rw[Nat.mul_add,<-nC,Nat.mul_left_comm,jH 256 (256^l.length)]
def wh (l:Lb):aQ l<256^l.length:=by
 induction l with
 |nil=>simp[aQ]
 |cons d l b=>have:=iO d;simp only[aQ,eI,je];omega
def te (l:Lb)(h:l.length<=8):aQ l<18446744073709551616:=
 fW (wh l) (lI pm h:256^l.length<=256^8)
def aP(n:Nat):Nat->Lb
 |0=>[]
 |k+1=>UInt8.ofNat n::aP (n/256) k
def gE (n k:Nat):(aP n k).length=k:=by
 induction k generalizing n with
 |zero=>rfl
 |succ k b=>simp[aP,b]
def ZA (n k:Nat):aP n (k+1)=aP n k++[UInt8.ofNat (n/256^k)]:=by
 induction k generalizing n with
 |zero=>simp[aP]
 |succ k b=>rw[aP,b (n/256)];simp only[aP,pL,je,qJ,jH]
def ZD (n k:Nat):aQ (aP n k)=n%256^k:=by
 induction k generalizing n with
 |zero=>simp[aP,aQ,Nat.mod_one]
 |succ k b=>simp only[aP,aQ,b,uZ];rw[show 256^(k+1)=256*256^k from by rw[je,jH],Nat.mod_mul]
def Zy l:aP (aQ l) l.length=l:=by
 induction l with
 |nil=>rfl
 |cons c l b=>have e:=iO c;simp only[aQ,eI,aP];rw[show(c.toNat+256*aQ l)/256=aQ l from pm,b];congr 1;apply tJ.1;rw[uZ];omega
def Ea (j:Nat):2^(8*j)=256^j:=by rw[Nat.pow_mul]
def I3 (N c j:Nat)(b:N<256^j)(e:c<256)(o:j<8):bits .or .u64 (N:Int) ((c*256^j:Nat):Int)=((N+c*256^j:Nat):Int):=by
 have f:256^(j+1)<=256^8:=lI pm pm;have g:c*256^j+256^j<=256^(j+1):=by rw[je,<-Nat.succ_mul,jH];exact EW _ e
 have h:(256:Nat)^8=18446744073709551616:=ut
 rw[tR _ _ pm pm];congr 1;rw[<-Ea,jH c,Nat.or_comm,<-yT (by rw[Ea];exact b),ze]
def qG w (l:Lb)(hl:l.length<=140737488355328):
 Calls prog 92 #[S l] w λe w'=>e= .returned (.int .u64 (aQ (l.take 8)))/\w=w':=by
 obtain ⟨m,hm,m8,ml,a9⟩:∃m:Nat,m=min l.length 8/\m<=8/\m<=l.length/\(if(8:Int)<(l.length:Int)then(8:Int)else(l.length:Int))=(m:Int):=⟨_,rfl,pm,pm,by split<;>omega⟩;have p:l.take 8=l.take m:=by
  rw[hm];rcases eR l.length 8with h|h
  ·rw[cE pm,cE pm]
  rw[xf h]
 rw[p];have I:=Hq hm;clear hm p;unfold S;go_enter func92,ntmps92;go_wp2_with fail;go_loop [3,8] (λC b=>∃j:Nat,j<=m/\b= .int .i64 j/\C= .int .u64 (aQ (l.take j))) (λ_ b=>m-(intOf b).toNat)
 case atStart=>exact ⟨0,pm,rfl,rfl⟩
 case round=>
  obtain ⟨j,hj,rfl,rfl⟩:=hrel;by_cases a8:j<m
  ·have z:aQ (l.take j)<256^j:=by have:=wh (l.take j);rwa[aJ,iF pm]at this
   have g:j<l.length:=pm;have f:=iO l[j];have o:=I3 (aQ (l.take j)) l[j].toNat j z f pm;have J:8*(j:Int)<=63:=pm;have e:bits .or .u64 (aQ (l.take j):Int) (IntKind.u64.wrap (IntKind.u64.wrap ((ByteArray.mk l.toArray)[j]'(by simpa[ByteArray.size]using g)).toNat*2^(8*j)))=((aQ (l.take (j+1)):Nat):Int):=by
    have q:((l[j].toNat:Int))*2^(8*j)=((l[j].toNat*256^j:Nat):Int):=(by rw[<-Ea];simp);have R:(256:Nat)^(j+1)<=256^8:=lI pm pm;have U:(256:Nat)^8=18446744073709551616:=ut;have h4:l[j].toNat*256^j<256^(j+1):=by rw[je,jH];exact Nat.mul_lt_mul_of_pos_left f (Nat.pow_pos pm)
    have y:IntKind.u64.wrap (l[j].toNat:Int)=(l[j].toNat:Int):=dE _ pm;show bits .or .u64 (aQ (l.take j):Int) (IntKind.u64.wrap (IntKind.u64.wrap (l[j].toNat:Int)*2^(8*j)))=_;rw[y,q,dE _ pm,o,fP g,ZE,aJ,iF pm]
   have E:=Hq e;clear e o;go_wp2;go_round
   case rel=>exact ⟨j+1,pm,by go_num,by rw[<-E.out]⟩
   case measure=>simp[intOf];omega
  obtain rfl:j=m:=pm
  go_wp2;go_ret;exact ⟨rfl,rfl⟩
def oG(w:World)(base:Nat)(l:Lb)(e:Ending)(w':World):Prop:=∃b,e= .returned b/\dq w' base b l/\Below base w w'
def pD w (base:Nat) v l (n k:Nat)(b:dq w base v l)(hn:n<18446744073709551616)(R:k<=8)(U:l.length+8<=140737488355328)(I:base<=w.heap.size):
 Calls prog 96 #[v, .int .u64 n, .int .i64 k] w (oG w base (l++aP n k)):=by
 have o:∀j,j<=k->(aP n j).length=j:=λj _=>gE n j;go_enter func96,ntmps96;go_wp2_with fail;go_loopw [0,9] (λy e wr=>∃j:Nat,j<=k/\e= .int .i64 j/\dq wr base y (l++aP n j)/\Below base w wr) (λ_ e _=>k-(intOf e).toNat)
 case atStart=>exact ⟨0,pm,rfl,by simpa[aP]using b,qS _ _⟩
 case round=>
  obtain ⟨j,J,rfl,b,HB⟩:=hrel;have p:=HB.size;clear o;by_cases a8:j<k
  ·have q:(l++aP n j).length+1<=140737488355328:=(by rw[aK,gE];omega);have h:=Hq (ZA n j);have z:0<=8*(j:Int):=pm;have C:8*(j:Int)<=64:=pm;go_wp2_with (at_builtin;go_must (refine KC rfl _ _ rfl base _ _ rfl b (UInt8.ofNat (n/256^j)) _ ?c1 rfl q pm ?_))
   case c1=>rw[<-Cq,<-Ea];simp
   intro v' w' g f;replace HB:=Pz HB b pm f;rw[<-h.out]at g;clear b f p;go_wp2;go_roundw
   case rel=>exact ⟨j+1,pm,by go_num,g,HB⟩
   case measure=>simp[intOf];omega
  obtain rfl:j=k:=pm
  go_wp2;go_ret;exact ⟨_,rfl,b,HB⟩
end
section
def xJ:List Ln:=[
 [0,1,2,3,4,5,6,7,8,9,10,11,12,13,14,15],
 [14,10,4,8,9,15,13,6,1,12,0,2,11,7,5,3],
 [11,8,12,0,5,2,15,13,10,14,3,6,7,1,9,4],
 [7,9,3,1,13,12,11,14,2,6,5,10,4,0,15,8],
 [9,0,5,7,2,4,10,15,14,1,11,12,6,8,3,13],
 [2,12,6,10,0,11,8,3,4,13,7,5,15,14,1,9],
 [12,5,1,15,14,13,4,10,0,7,6,3,9,2,8,11],
 [13,11,7,14,12,1,3,9,5,0,15,4,8,6,2,10],
 [6,15,14,9,11,3,0,8,12,2,13,7,1,4,10,5],
 [10,2,8,4,7,6,1,5,15,11,9,14,3,12,13,0]]
def fq:List Ln:=[[0,4,8,12],[1,5,9,13],[2,6,10,14],[3,7,11,15],[0,5,10,15],[1,6,11,12],[2,7,8,13],[3,4,9,14]]
def vN(a b c d x y:Nat):Nat×Nat×Nat×Nat:=
 let a:=df a (df b x)
 let d:=eG (d^^^a) 16
 let c:=df c d
 let b:=eG (b^^^c) 20
 let a:=df a (df b y)
 let d:=eG (d^^^a) 24
 let c:=df c d
 let b:=eG (b^^^c) 25
 (a,b,c,d)
def sE(i j k l x y:Nat)(v:Ln):Ln:=
 let r:=vN (v.getD i 0) (v.getD j 0) (v.getD k 0) (v.getD l 0) x y
 (((v.set i r.1).set j r.2.1).set k r.2.2.1).set l r.2.2.2
def FM(p:Ln)(x y:Nat)(v:Ln):Ln:=sE (p.getD 0 0) (p.getD 1 0) (p.getD 2 0) (p.getD 3 0) x y v
def rb(m l v:Ln):Nat->Ln
 |0=>v
 |i+1=>FM (fq.getD i []) (m.getD (l.getD (2*i) 0) 0) (m.getD (l.getD (2*i+1) 0) 0) (rb m l v i)
def re(m v:Ln):Nat->Ln
 |0=>v
 |r+1=>rb m (xJ.getD r []) (re m v r) 8
def mM(b:Lb)(n:Nat):Ln:=(List.range n).map λi=>aQ ((b.drop (4*i)).take 4)
def sG(h:Ln)(many:Nat)(b:Bool):Ln:=
 let v:=h++fj
 let v:=v.set 12 (v.getD 12 0^^^many%4294967296)
 let v:=v.set 13 (v.getD 13 0^^^many/4294967296)
 if b then v.set 14 (4294967295^^^v.getD 14 0)else v
def kD(h:Ln)(b:Lb)(many:Nat)(e:Bool):Ln:=
 let v:=re (mM b 16) (sG h many e) 10
 (List.range 8).map λi=>h.getD i 0^^^(v.getD i 0^^^v.getD (i+8) 0)
def FN h b (many:Nat)(e:Bool):(kD h b many e).length=8:=by simp[kD]
def zF(b many:Nat):Ln:=fj.set 0 (fj.getD 0 0^^^((16842752^^^b*256)^^^many))
def xK:Nat->Ln->Lb->Nat->Ln×Lb×Nat
 |0,h,s,b=>(h,s,b)
 |f+1,h,s,b=>if 64<s.length then xK f (kD h (s.take 64) (b+64) false) (s.drop 64) (b+64)else(h,s,b)
def lg(s:Ln):Lb:=s.flatMap λn=>aP n 4
def nH(key s:Lb):Lb:=if key=[]then s else key++List.replicate (64-key.length) 0++s
def fx(key s:Lb)(many:Nat):Lb:=
 let r:=xK (nH key s).length (zF key.length many) (nH key s) 0
 (lg (kD r.1 (r.2.1++List.replicate (64-r.2.1.length) 0) (r.2.2+r.2.1.length) true)).take many
def Im s:(lg s).length=4*s.length:=by
 unfold lg;induction s with
 |nil=>rfl
 |cons a s b=>rw[ox,aK,b,gE,eI];omega
def uc key s (many:Nat)(h:many<=32):(fx key s many).length=many:=by unfold fx;simp only;rw[aJ,Im,FN];omega
end
section
open Go.RowKit
def yP w (l:Lb)(h:l.length<=8):
 Calls prog 247 #[S l] w λe w'=>e= .returned (.int .u64 (aV l))/\w=w':=by
 unfold S;go_enter func247,ntmps247;go_wp2;go_loop [3,8] (λo f=>∃j:Nat,j<=l.length/\f= .int .i64 j/\o= .int .u64 (aV (l.take j))) (λ_ f=>l.length-(intOf f).toNat)
 case atStart=>exact ⟨0,pm,rfl,rfl⟩
 case round=>
  obtain ⟨j,p,rfl,rfl⟩:=hrel;by_cases b:j<l.length
  ·have g:=SE l j b h;go_wp2;go_round
   case rel=>
    have e:bits .or .u64 ((aV (l.take j):Int)*256) (IntKind.u64.wrap ((ByteArray.mk l.toArray)[j]'(by simpa[ByteArray.size]using b)).toNat)=((aV (l.take (j+1)):Nat):Int):=by rw[fP b,SD];exact I2 _ _ g
    exact ⟨j+1,pm,by go_num,by rw[<-e]⟩
   case measure=>simp[intOf];omega
  obtain rfl:j=l.length:=pm
  go_wp2;go_ret;exact ⟨pq (by first|rfl|rw[pK]),rfl⟩
def acx w (s:ByteArray)(b:s.size<=8):
 Calls prog 247 #[.string s] w λe w'=>e= .returned (.int .u64 (aV s.data.toList))/\w=w':=by
 have h:=yP w s.data.toList (by rw[rT];exact b);exact h
def Mz (b:x<4294967296)(c:Nat):x/2^c<4294967296:=kO (qQ _ _) b
def ON (e:x<4294967296)(a b c:Nat):qu x a b c<4294967296:=gG (gG (jr e) (jr e)) (Mz e c)
def OM (e:x<4294967296)(a b c:Nat):ph x a b c<4294967296:=gG (gG (jr e) (jr e)) (jr e)
def Mb w (x:Nat)(g:x<4294967296)(A B:Int)(b f c:Nat)(h:bits .and .u64 (IntKind.u64.wrap (-A)) 31=(b:Int))(o:bits .and .u64 (IntKind.u64.wrap (-B)) 31=(f:Int))
 (a1:0<b) (a2:b<32) (R:0<f) (U:f<32) (c1:0<c) (c2:c<32) (p:bits .and .u64 (IntKind.u64.wrap (c:Int)) 31=(c:Int)) (A1: -64<=A) (A2:A<=64) (B1: -64<=B) (B2:B<=64):
 Calls prog 284 #[ay x,ar A,ar B,ar c] w λe w'=>e= .returned (ay ((eG x b^^^eG x f)^^^x/2^c:Nat))/\w=w':=by
 have J:∀W:World,Calls prog 283 #[ay x,ar c] W λe w'=>e= .returned (ay (eG x c:Nat))/\W=w':=λW=>nj x c _ W g p c1 c2;have C:∀W:World,Calls prog 283 #[ay x,ar (-A)] W λe w'=>e= .returned (ay (eG x b:Nat))/\W=w':=λW=>nj x b _ W g h a1 a2;have I:∀W:World,Calls prog 283 #[ay x,ar (-B)] W λe w'=>e= .returned (ay (eG x f:Nat))/\W=w':=λW=>nj x f _ W g o R U;have q:=jr (s:=b) g;have y:=jr (s:=f) g;have l3:=Mz g c;have a':decide ((0:Int)<(c:Int))=true:=pp
 have a8:(0:Int)<=(c:Int):=pm
 have a9:(c:Int)<32:=pm
 clear h o p;go_enter func284,ntmps284;go_wp2_with fail;refine (J _).mono ?_;rintro e z ⟨rfl,rfl⟩;go_wp2_with fail;refine (C _).mono ?_;rintro e z ⟨rfl,rfl⟩;go_wp2_with fail;refine (I _).mono ?_;rintro e z ⟨rfl,rfl⟩;go_wp2;go_ret;refine ⟨pq ?_,rfl⟩;rw[qR _ _ q y,show((x:Int)/2^c)=((x/2^c:Nat):Int)from pu,qR _ _ (gG q y) l3]
def Mc w (x:Nat)(h:x<4294967296)(A B C:Int)(b f g:Nat)(o:bits .and .u64 (IntKind.u64.wrap (-A)) 31=(b:Int))(p:bits .and .u64 (IntKind.u64.wrap (-B)) 31=(f:Int))(q:bits .and .u64 (IntKind.u64.wrap C) 31=(g:Int))
 (a1:0<b) (a2:b<32) (b1:0<f) (b2:f<32) (c1:0<g) (c2:g<32) (A1: -64<=A) (A2:A<=64) (B1: -64<=B) (B2:B<=64) (C1:C<0):
 Calls prog 284 #[ay x,ar A,ar B,ar C] w λe w'=>e= .returned (ay ((eG x b^^^eG x f)^^^eG x g:Nat))/\w=w':=by
 have U:∀W:World,Calls prog 283 #[ay x,ar C] W λe w'=>e= .returned (ay (eG x g:Nat))/\W=w':=λW=>nj x g _ W h q c1 c2;have J:∀W:World,Calls prog 283 #[ay x,ar (-A)] W λe w'=>e= .returned (ay (eG x b:Nat))/\W=w':=λW=>nj x b _ W h o a1 a2;have R:∀W:World,Calls prog 283 #[ay x,ar (-B)] W λe w'=>e= .returned (ay (eG x f:Nat))/\W=w':=λW=>nj x f _ W h p b1 b2;have y:=jr (s:=b) h;have z:=jr (s:=f) h;have l3:=jr (s:=g) h;have a8:decide ((0:Int)<C)=false:=pp
 clear o p q;go_enter func284,ntmps284;go_wp2_with fail;refine (U _).mono ?_;rintro e I ⟨rfl,rfl⟩;go_wp2_with fail;refine (J _).mono ?_;rintro e I ⟨rfl,rfl⟩;go_wp2_with fail;refine (R _).mono ?_;rintro e I ⟨rfl,rfl⟩;go_wp2;go_ret;refine ⟨pq ?_,rfl⟩;rw[qR _ _ y z,qR _ _ (gG y z) l3]
def pY(n:Nat)(w:World)(e:Ending)(w':World):Prop:=e= .returned (ay n)/\w=w'
def j7 w (x:Nat)(b:x<4294967296):Calls prog 284 #[ay x,ar 7,ar 18,ar 3] w (pY (qu x 7 18 3) w):=
 Mb w x b 7 18 25 14 3 qr qr pm pm pm pm pm pm qr pm pm pm pm
def j8 w (x:Nat)(b:x<4294967296):Calls prog 284 #[ay x,ar 17,ar 19,ar 10] w (pY (qu x 17 19 10) w):=
 Mb w x b 17 19 15 13 10 qr qr pm pm pm pm pm pm qr pm pm pm pm
def j5 w (x:Nat)(b:x<4294967296):Calls prog 284 #[ay x,ar 6,ar 11,ar (-25)] w (pY (ph x 6 11 25) w):=
 Mc w x b 6 11 (-25) 26 21 7 qr qr qr pm pm pm pm pm pm pm pm pm pm pm
def j6 w (x:Nat)(b:x<4294967296):Calls prog 284 #[ay x,ar 2,ar 13,ar (-22)] w (pY (ph x 2 13 22) w):=
 Mc w x b 2 13 (-22) 30 19 10 qr qr qr pm pm pm pm pm pm pm pm pm pm pm
def eZ(n:Nat):Value:=ay n
def fV(l:Ln):Value:= .agg (l.map eZ).toArray
def HB(w:World)(B:Nat)(t:TypeId)(l:Ln):Prop:=ab w B t (l.map eZ)
def HB.cell {l}(h:HB w B t l)(i:Nat)(b:i<l.length):w.cell? ⟨B,i,none⟩=some (ay (l[i]:Nat)):=by rw[ab.cell h,fQ,aW b];rfl
def HB.set {l}(h:HB w B t l)(i n:Nat):HB (w.setCell ⟨B,i,none⟩ (ay n)) B t (l.set i n):=by have:=ab.set h i (ay n);unfold HB;rw[pP];exact this
def fl(l:Ln):Prop:=∀x∈l,x<4294967296
def Af:(prog.info? 33).map (·.size)=some 1:=qr
def rA:Lv:=[ay 1116352408,ay 1899447441,ay 3049323471,ay 3921009573,ay 961987163,ay 1508970993,ay 2453635748,ay 2870763221,ay 3624381080,ay 310598401,ay 607225278,ay 1426881987,ay 1925078388,ay 2162078206,ay 2614888103,ay 3248222580,ay 3835390401,ay 4022224774,ay 264347078,ay 604807628,ay 770255983,ay 1249150122,ay 1555081692,ay 1996064986,ay 2554220882,ay 2821834349,ay 2952996808,ay 3210313671,ay 3336571891,ay 3584528711,ay 113926993,ay 338241895,ay 666307205,ay 773529912,ay 1294757372,ay 1396182291,ay 1695183700,ay 1986661051,ay 2177026350,ay 2456956037,ay 2730485921,ay 2820302411,ay 3259730800,ay 3345764771,ay 3516065817,ay 3600352804,ay 4094571909,ay 275423344,ay 430227734,ay 506948616,ay 659060556,ay 883997877,ay 958139571,ay 1322822218,ay 1537002063,ay 1747873779,ay 1955562222,ay 2024104815,ay 2227730452,ay 2361852424,ay 2428436474,ay 2756734187,ay 3204031479,ay 3329325298]
def Zg:nk.map eZ=rA:=by simp only[nk,eZ,rA,oC,tO,BH]
def Zh:rA.toArray.all (·.oneCell')=true:=qr
def YL:(prog.info? 372).map (·.size)=some rA.length:=qr
def YM:(prog.info? 372).map (·.size)=some rA.toArray.size:=qr
def acU:Lv:=List.replicate 64 (ay 0)
def Uj w:Calls prog 285 #[] w (Grown (fV nk) w):=by
 obtain ⟨x,b⟩:=kq (w.alloc (.cells Km 372));have g:ab x w.heap.size 372 acU:=by rw[b];exact aO _ _
 have y:x.there w.heap.size 0 rA.toArray.size:=g.there _ qr;have f:=g.store rA qr;have z:fV nk= .agg rA.toArray:=by unfold fV;rw[Zg]
 have h:w.grownBy (x.setCells w.heap.size 0 rA.toArray.toList) none:=uu (by rw[b];exact aF (ak w none) _) _ (bm _) _ _;rw[z];have q:=Zh;have o:=YL;have p:=YM;obtain ⟨L,e⟩:=kq rA;rw[<-e]at y f h q o p⊢;have R:=Hq e;have HW:=Hq f;have C:=Hq h;have HX:=Hq b;have HT:=Hq y;have U:=Hq q;have I:=Hq o;have J:=Hq p;clear g z f h b y e q o p;go_enter func285,ntmps285;go_upto_region 1with(fail);rw[<-HX.out];refine oB ?_;refine Go.Great.wpList_readTo rfl _ rfl (.agg L.toArray) ?_ ?_
 ·rw[R.out];kernel_rfl
 refine wpList_store_mid rfl 372 _ _ rfl w.heap.size 0 L.toArray rfl rfl HT.out J.out U.out ?_;refine oD ?_;go_wp2_with fail;refine bodyPost_ret (v:= .agg L.toArray) (uJ results285 _ _ w.heap.size rfl L _ HW.out underlying372 rfl I.out) rfl ?_;exact ⟨rfl,C.out⟩
def pE(b:Lb)(t:Nat):Ln:=sched b t++List.replicate (64-t) 0
def yS b (t:Nat)(h:t<=64):(pE b t).length=64:=by unfold pE;rw[aK,uL,wW];omega
def acN b (t:Nat)(h:t<64):(pE b t).set t (rP b (sched b t) t)=pE b (t+1):=by unfold pE;rw[kp _ _ (by rw[uL];omega),uL,il,show 64-t=(64-(t+1))+1from pm,Bx,iD,sched,dM];rfl
def EG b (t j:Nat)(h:j<t)(e:t<=64):(pE b t)[j]'(by rw[yS b t e];omega)=(sched b t).getD j 0:=by unfold pE;rw[EM (by rw[uL];exact h),dh,aW (by rw[uL];exact h)];rfl
def acM b:pE b 64=sched b 64:=by unfold pE;simp
def qA (a b:Nat):df a b<4294967296:=dQ _ pm
def KJ (l:Lb):aV (l.take 4)<4294967296:=by refine fW (ua _) ?_;exact (lI pm (by rw[aJ];omega):256^(l.take 4).length<=256^4)
def acj b l (t:Nat):rP b l t<4294967296:=by
 unfold rP;split
 ·exact KJ _
 exact qA _ _
def yD b:∀t,fl (sched b t)
 |0=>by intro x e;cases e
 |t+1=>by
  intro x e;rw[sched,bG]at e;rcases e with h|h
  ·exact yD b t x h
  rw[jG.1 h];exact acj _ _ _
def fS {l}(h:fl l)(i:Nat):l.getD i 0<4294967296:=by
 rw[dh];by_cases q:i<l.length
 ·rw[aW q];exact h _ (iE q)
 rw[eE pm];decide
def eight {b:Ln}(h:b.length=8):∃a0 a1 a2 a3 a4 a5 a6 a7,b=[a0,a1,a2,a3,a4,a5,a6,a7]:=by
 match b,h with
 |[a0,a1,a2,a3,a4,a5,a6,a7],_=>exact ⟨a0,a1,a2,a3,a4,a5,a6,a7,rfl⟩
def HB.eight (h:HB w B t [a0,a1,a2,a3,a4,a5,a6,a7]):
 w.cell? ⟨B,0,none⟩=some (ay a0)/\w.cell? ⟨B,1,none⟩=some (ay a1)/\w.cell? ⟨B,2,none⟩=some (ay a2)/\w.cell? ⟨B,3,none⟩=some (ay a3)/\
 w.cell? ⟨B,4,none⟩=some (ay a4)/\w.cell? ⟨B,5,none⟩=some (ay a5)/\w.cell? ⟨B,6,none⟩=some (ay a6)/\w.cell? ⟨B,7,none⟩=some (ay a7):=
 ⟨h.cell 0 pu,h.cell 1 pu,h.cell 2 pu,h.cell 3 pu,h.cell 4 pu,h.cell 5 pu,h.cell 6 pu,h.cell 7 pu⟩
def aam:fl nk:=by unfold fl;decide+kernel
def aao {v}(h:fl v)(k w:Nat):fl (Ep v k w):=by
 intro x b;have g:=fS h;simp only[Ep,bp,dD,dH]at b;rcases b with rfl|rfl|rfl|rfl|rfl|rfl|rfl|rfl
 ·exact qA _ _
 ·exact g 0
 ·exact g 1
 ·exact g 2
 ·exact qA _ _
 ·exact g 4
 ·exact g 5
 exact g 6
def Jp ws s (h:fl s):∀t,fl (rL ws s t)
 |0=>h
 |t+1=>aao (Jp ws s h t) _ _
def Zf (t:Nat)(h:t<64):(nk.map eZ).toArray[t]?=some (eZ (nk.getD t 0)):=by
 have b:nk.length=64:=wl
 rw[EO,fQ,dh,aW pm];rfl
def Ap (a b:Nat)(e:a<4294967296)(f:b<4294967296):∃c:Nat,((a&&&b)=c/\bits .and .u32 (a:Int) (b:Int)=(c:Int))/\c<4294967296:=
 ⟨a&&&b,⟨rfl,u32_and_nat a b e f⟩,kO Nat.and_le_left e⟩
def OU (a b:Nat)(e:a<4294967296)(f:b<4294967296):∃c:Nat,((a|||b)=c/\bits .or .u32 (a:Int) (b:Int)=(c:Int))/\c<4294967296:=
 ⟨a|||b,⟨rfl,u32_or_nat a b e f⟩,ow (n:=32) e f⟩
def pj (a b:Nat)(e:a<4294967296)(f:b<4294967296):∃c:Nat,((a^^^b)=c/\bits .xor .u32 (a:Int) (b:Int)=(c:Int))/\c<4294967296:=
 ⟨a^^^b,⟨rfl,qR a b e f⟩,gG e f⟩
def OT (b:Nat)(e:b<4294967296):∃c:Nat,((4294967295^^^b)=c/\bits .xor .u32 IntKind.u32.max (b:Int)=(c:Int))/\c<4294967296:=
 ⟨4294967295^^^b,⟨rfl,qR 4294967295 b pm e⟩,gG pm e⟩
def mY (a b:Nat):∃c:Nat,(df a b=c/\((a:Int)+(b:Int))%4294967296=(c:Int)/\IntKind.u32.wrap ((a:Int)+(b:Int))=(c:Int))/\c<4294967296:=
 ⟨df a b,⟨rfl,by unfold df;omega,by rw[IntKind.wrap_u32];unfold df;omega⟩,qA a b⟩
def PZ {P}{f:FuncId}{args}
 (h:Calls P f args (w.drewN (a+n)) λe w'=>e= .returned v/\w.drewN (a+n)=w'):
 Calls P f args (w.drewN (a+n)) λe g=>e= .returned v/\∃m,g=w.drewN (a+m):=
 h.mono λ_ _ ⟨b,hm⟩=>⟨b,n,hm.symm⟩
def oi(s r:Ln)(i:Nat):Ln:=(tv s r).take i++s.drop i
def Ba (s r:Ln)(e:s.length=8)(b:r.length=8):(tv s r).length=8:=by unfold tv;rw[wZ];omega
def Jw (s r:Ln)(e:s.length=8)(b:r.length=8)(i:Nat)(h:i<=8):(oi s r i).length=8:=by unfold oi;rw[aK,aJ,aR,Ba s r e b];omega
def aaV (s r:Ln)(e:s.length=8)(b:r.length=8)(i:Nat)(h:i<8):(oi s r i)[i]'(by rw[Jw s r e b i pm];exact h)=s.getD i 0:=by unfold oi;rw[uV (by rw[aJ,Ba s r e b];omega),vh,dh,aW pm];simp[Ba s r e b];congr 1;omega
def aaX (s r:Ln)(e:s.length=8)(b:r.length=8)(i:Nat)(h:i<8):(oi s r i).set i (df (s.getD i 0) (r.getD i 0))=oi s r (i+1):=by unfold oi;have l:=Ba s r e b;rw[kp _ _ (by rw[aJ];omega),aJ,l,show i-min i 8=0from pm,jV (show i<s.length by omega),iD];rw[fP (show i<(tv s r).length by omega),dM];congr 2;unfold tv;rw[Bv,dh,dh,aW (show i<s.length by omega),aW (show i<r.length by omega)];rfl
def aaU (s r:Ln)(e:s.length=8)(b:r.length=8):oi s r 8=tv s r:=by unfold oi;rw[iP pm,ev,cE (by rw[Ba s r e b];omega)]
def Mm w (s:Ln)(b:Lb)(hs:s.length=8)(j9:fl s)(hb:b.length=64):
 Calls prog 265 #[fV s,S b] w (Grown (fV (lH s b)) w):=by
 obtain ⟨B,hB⟩:=kq w.heap.size;obtain ⟨x,hx⟩:=kq (((w.alloc (.cells (s.map eZ).toArray 350)).alloc (.cells Ci 350)).alloc (.cells Km 372));have s1:(w.alloc (.cells (s.map eZ).toArray 350)).heap.size=B+1:=by rw[hB];simp
 have s2:((w.alloc (.cells (s.map eZ).toArray 350)).alloc (.cells Ci 350)).heap.size=B+1+1:=by rw[hB];simp
 have bS:HB x B 350 s:=by rw[hx,hB];exact cG (cG (aO _ _))
 have bR:HB x (B+1) 350 [0,0,0,0,0,0,0,0]:=by rw[hx,<-s1];exact cG (aO _ _)
 have bW:HB x (B+1+1) 372 (pE b 0):=by rw[hx,<-s2];exact aO _ _
 have j3:w.grownBy x none:=by rw[hx];exact aF (aF (aF (ak w none) _) _) _
 have b9:=Hq hB;have HX:=Hq hx;have b5:=Hq bS;have a9:=Hq bR;have b':=Hq bW;have HG:=Hq j3;have HS:=Hq hs;have i3:=Hq j9;have HL:=Hq hb;have r2:=dP;clear hB hx bS bR bW j3 hs j9 hb s1 s2;unfold fV S;go_enter func265,ntmps265;go_upto_region 2with(fail);rw[<-b9.out,<-HX.out];go_wp2_with fail;go_loopw [15] (λh' wr=>∃i:Nat,i<=64/\h'=ar i/\Hid (HB wr (B+1+1) 372 (pE b i))/\Hid (x.grownBy wr (some (B+1+1)))) (λh' _=>64-(intOf h').toNat)
 case atStart=>exact ⟨0,pm,rfl,b',Hq (ak _ _)⟩
 case round=>
  obtain ⟨i,hi,rfl,hW,o⟩:=hrel;by_cases I:i<64
  ·have a8:=hW.out.set i (rP b (sched b i) i);rw[acN b i I]at a8;have a':=aw o.out i (ay (rP b (sched b i) i:Nat));have cW:=ab.cell hW.out;have fi:wr.frozen? ⟨B+1+1,i,none⟩=false:=ab.frozen hW.out i;have ci:wr.cell? ⟨B+1+1,i,none⟩=some (ay ((pE b i)[i]'(by rw[yS b i hi];exact I):Nat)):=hW.out.cell i _;by_cases i7:i<16
   ·have hn:rP b (sched b i) i=aV ((b.drop (4*i)).take 4):=by unfold rP;rw[av i7]
    have hN:=KJ (b.drop (4*i));have AB:∀W:World,Calls prog 247 #[.string ⟨((b.drop (4*i)).take 4).toArray⟩] W λe w'=>e= .returned (cM (aV ((b.drop (4*i)).take 4)))/\W=w':=λW=>yP W _ (by rw[aJ];omega);rw[hn]at a8 a';have p7:((aV ((b.drop (4*i)).take 4):Nat):Int)%4294967296=((aV ((b.drop (4*i)).take 4):Nat):Int):=pm;have lb:b.length=64:=HL.out;have k1:(4*(i:Int)).toNat=4*i:=pm;have k2:(4*(i:Int)+4).toNat=4*i+4:=pm;have k3:4*i+4<=b.length:=pm;have k4:4*(i:Int)+4<=(b.length:Int):=pm;have c9:=Hq a8;have c8:=Hq a';clear hn a8 a' cW hW o lb;generalize aV ((b.drop (4*i)).take 4)=N at*;go_wp2_with fail;refine (AB _).mono ?_;rintro e w1 ⟨rfl,rfl⟩;go_wp2;go_roundw
    case rel=>exact ⟨i+1,pm,by go_num,c9,c8⟩
    case measure=>simp[intOf];omega
   obtain ⟨a1,e1,b1⟩:∃j:Nat,(i:Int)-16=(j:Int)/\i-16=j:=⟨i-16,pm,rfl⟩;obtain ⟨a2,e2,b2⟩:∃j:Nat,(i:Int)-7=(j:Int)/\i-7=j:=⟨i-7,pm,rfl⟩;obtain ⟨a3,e3,b3⟩:∃j:Nat,(i:Int)-15=(j:Int)/\i-15=j:=⟨i-15,pm,rfl⟩;obtain ⟨a4,e4,b4⟩:∃j:Nat,(i:Int)-2=(j:Int)/\i-2=j:=⟨i-2,pm,rfl⟩;obtain ⟨x1,d'⟩:∃z,z=(sched b i).getD a1 0:=⟨_,rfl⟩;obtain ⟨x2,e0⟩:∃z,z=(sched b i).getD a2 0:=⟨_,rfl⟩;obtain ⟨x3,e'⟩:∃z,z=(sched b i).getD a3 0:=⟨_,rfl⟩;obtain ⟨x4,f8⟩:∃z,z=(sched b i).getD a4 0:=⟨_,rfl⟩;have q1:wr.cell? ⟨B+1+1,a1,none⟩=some (ay x1):=by have:=hW.out.cell a1 (by rw[yS b i hi];omega);rw[EG b i a1 pm hi,<-d']at this;exact this
   have q2:wr.cell? ⟨B+1+1,a2,none⟩=some (ay x2):=by have:=hW.out.cell a2 (by rw[yS b i hi];omega);rw[EG b i a2 pm hi,<-e0]at this;exact this
   have q3:wr.cell? ⟨B+1+1,a3,none⟩=some (ay x3):=by have:=hW.out.cell a3 (by rw[yS b i hi];omega);rw[EG b i a3 pm hi,<-e']at this;exact this
   have q4:wr.cell? ⟨B+1+1,a4,none⟩=some (ay x4):=by have:=hW.out.cell a4 (by rw[yS b i hi];omega);rw[EG b i a4 pm hi,<-f8]at this;exact this
   have o1:x1<4294967296:=by rw[d'];exact fS (yD b i) _
   have o2:x2<4294967296:=by rw[e0];exact fS (yD b i) _
   have o3:x3<4294967296:=by rw[e'];exact fS (yD b i) _
   have o4:x4<4294967296:=by rw[f8];exact fS (yD b i) _
   have hn:rP b (sched b i) i=df (df (df x1 x2) (qu x3 7 18 3)) (qu x4 17 19 10):=by unfold rP;rw[au i7,b1,b2,b3,b4,d',e0,e',f8]
   have M3:∀W:World,Calls prog 284 #[ay x3,ar 7,ar 18,ar 3] W (pY (qu x3 7 18 3) W):=λW=>j7 W x3 o3;have M4:∀W:World,Calls prog 284 #[ay x4,ar 17,ar 19,ar 10] W (pY (qu x4 17 19 10) W):=λW=>j8 W x4 o4;have p3:=ON o3 7 18 3;have p4:=ON o4 17 19 10;rw[hn]at a8 a';generalize qu x3 7 18 3=m3 at*;generalize qu x4 17 19 10=m4 at*;obtain ⟨y1,h6⟩:∃z,z=df x1 x2:=⟨_,rfl⟩;obtain ⟨y2,h7⟩:∃z,z=df y1 m3:=⟨_,rfl⟩;obtain ⟨y3,h8⟩:∃z,z=df y2 m4:=⟨_,rfl⟩;rw[<-h6,<-h7,<-h8]at a8 a';have t1:((x1:Int)+(x2:Int))%4294967296=(y1:Int):=by rw[h6];unfold df;omega
   have t2:((y1:Int)+(m3:Int))%4294967296=(y2:Int):=by rw[h7];unfold df;omega
   have t3:((y2:Int)+(m4:Int))%4294967296=(y3:Int):=by rw[h8];unfold df;omega
   have w1:IntKind.i64.wrap (a1:Int)=(a1:Int):=dG _ pm;have w2:IntKind.i64.wrap (a2:Int)=(a2:Int):=dG _ pm;have w3:IntKind.i64.wrap (a3:Int)=(a3:Int):=dG _ pm;have w4:IntKind.i64.wrap (a4:Int)=(a4:Int):=dG _ pm;have g1:(a1:Int)<64:=pm;have g2:(a2:Int)<64:=pm;have g3:(a3:Int)<64:=pm;have g4:(a4:Int)<64:=pm;have p5:¬((i:Int)<16):=pm;have c9:=Hq a8;have c8:=Hq a';clear hn a8 a' cW hW o d' e0 e' f8 h6 h7 h8 b1 b2 b3 b4;unfold pY at M3 M4;go_wp2_with fail;go_still_tail 23,qr;still_call((M3 _).mono (λe w' h=>⟨h.1,h.2.symm⟩));repeat still_step
   still_call((M4 _).mono (λe w' h=>⟨h.1,h.2.symm⟩));repeat still_step
   refine vA ?_;change wpList _ _ _ _ _ wr.drew;go_wp2;go_roundw
   case rel=>exact ⟨i+1,pm,by go_num,c9,aM c8⟩
   case measure=>simp[intOf];omega
  obtain rfl:i=64:=pm
  have b7:HB wr B 350 s:=ab.kept b5.out o.out pp;have d8:HB wr (B+1) 350 [0,0,0,0,0,0,0,0]:=ab.kept a9.out o.out pu;have g0:HB wr (B+1+1) 372 (sched b 64):=by have:=hW.out;rw[acM]at this;exact this
  obtain ⟨s0,s1,s2,s3,s4,s5,s6,s7,es⟩:=eight HS.out;have f9:=b7;rw[es]at f9;obtain ⟨c0,c1,c2,c3,c4,c5,c6,c7⟩:=f9.eight;obtain ⟨V,hV⟩:=kq wr.heap.size;obtain ⟨y,hy⟩:=kq (wr.alloc (.cells #[ay s0,ay s1,ay s2,ay s3,ay s4,ay s5,ay s6,ay s7] 350));have bV:HB y V 350 s:=by rw[hy,hV,es];exact aO _ _
  have i5:HB y B 350 s:=by rw[hy];exact cG b7
  have i4:HB y (B+1) 350 [0,0,0,0,0,0,0,0]:=by rw[hy];exact cG d8
  have i6:HB y (B+1+1) 372 (sched b 64):=by rw[hy];exact cG g0
  have j4:w.grownBy y none:=by rw[hy];exact aF (cJ HG.out o.out (by have:=b9.out;omega)) _
  have p6:B+1+1<V:=by rw[hV];exact ab.lt g0
  have HV:=Hq hV;have HY:=Hq hy;have b0:=Hq bV;have b5:=Hq i5;have a9:=Hq i4;have b':=Hq i6;have k8:=Hq j4;have i1:=Hq es;clear b7 d8 g0 f9 hV hy bV i5 i4 i6 j4 es hW o r2;go_upto_region 10with(fail);rw[<-HV.out,<-HY.out];clear c0 c1 c2 c3 c4 c5 c6 c7;go_wp2_with fail;refine ax (Uj _) λz b8=>?_;have bV:HB z V 350 s:=ab.kept b0.out b8 nofun
  have b0:=Hq bV;have b5:=Hq (ab.kept b5.out b8 nofun);have a9:=Hq (ab.kept a9.out b8 nofun);have b':=Hq (ab.kept b'.out b8 nofun);have k9:=Hq (ai k8.out b8);clear bV b8;obtain ⟨K,hK⟩:=kq nk;unfold fV;rw[<-hK];have HK:=Hq hK;clear hK;go_wp2_with fail;go_loopw [57] (λi0 wr=>∃t:Nat,t<=64/\i0=ar t/\Hid (HB wr V 350 (rL (sched b 64) s t))/\Hid (z.grownBy wr (some V))) (λi0 _=>64-(intOf i0).toNat)
  case atStart=>exact ⟨0,pm,rfl,b0,Hq (ak _ _)⟩
  case round=>
   obtain ⟨t,ht,rfl,hL,o⟩:=hrel;by_cases I:t<64
   ·have lL:=Jo (sched b 64) s HS.out t;have sL:=Jp (sched b 64) s i3.out t;have ix:∀W:World,(Instr.index 372 (.agg (K.map eZ).toArray) (ar t)).run prog W= .ok (ay (nk.getD t 0:Nat)) W:=λW=>Je W 372 33 64 _ t _ underlying372 Af qr I (by rw[HK.out];exact Zf t I)
    have lk:nk.getD t 0<4294967296:=fS aam t;have h3:rL (sched b 64) s (t+1)=Ep (rL (sched b 64) s t) (nk.getD t 0) ((sched b 64).getD t 0):=rfl;have bw:=ab.kept b'.out o.out pp;have cw:wr.cell? ⟨B+1+1,t,none⟩=some (ay ((sched b 64).getD t 0:Nat)):=by have:=HB.cell bw t (by rw[uL];exact I);rw[this,dh,aW (by rw[uL];exact I)];rfl
    have lw:=fS (yD b 64) t;generalize nk.getD t 0=kt at*;generalize (sched b 64).getD t 0=wt at*;obtain ⟨L',g9⟩:=kq (rL (sched b 64) s (t+1));rw[<-g9]at h3;have k':=Hq g9;clear g9;generalize rL (sched b 64) s t=L at*;obtain ⟨g,p,C,U,f,J,R,v7,eL⟩:=eight lL;have bL:=hL.out;rw[eL]at bL;obtain ⟨c0,c1,c2,c3,c4,c5,c6,c7⟩:=bL.eight;have l':=Hq h3;have k0:=Hq bL;have k5:=Hq eL;rw[eL]at sL;have m5:=Hq sL;clear h3 bw bL eL lL sL hL;have p':(t:Int)<64:=pm;have hv:∀x∈[g,p,C,U,f,J,R,v7],x<4294967296:=m5.out;have o0:g<4294967296:=hv _ pu;have o1:p<4294967296:=hv _ pu;have o2:C<4294967296:=hv _ pu;have o3:U<4294967296:=hv _ pu;have o4:f<4294967296:=hv _ pu;have o5:J<4294967296:=hv _ pu;have o6:R<4294967296:=hv _ pu;have o7:v7<4294967296:=hv _ pu;have M1:∀W:World,Calls prog 284 #[ay f,ar 6,ar 11,ar (-25)] W λe w'=>e= .returned (ay (ph f 6 11 25:Nat))/\W=w':=λW=>j5 W f o4;have M2:∀W:World,Calls prog 284 #[ay g,ar 2,ar 13,ar (-22)] W λe w'=>e= .returned (ay (ph g 2 13 22:Nat))/\W=w':=λW=>j6 W g o0;have p8:=OM o4 6 11 25;have p9:=OM o0 2 13 22;have hN:=l'.out;rw[k5.out]at hN
    have g':L'=[df (df (df (df (df v7 (ph f 6 11 25)) ((f&&&J)^^^((4294967295^^^f)&&&R))) kt) wt) (df (ph g 2 13 22) (((g&&&p)|||(g&&&C))|||(p&&&C))),g,p,C,df U (df (df (df (df v7 (ph f 6 11 25)) ((f&&&J)^^^((4294967295^^^f)&&&R))) kt) wt),f,J,R]:=hN;generalize ph f 6 11 25=m1 at*;generalize ph g 2 13 22=m2 at*;obtain ⟨n1,e1,l1⟩:=Ap f J o4 o5;obtain ⟨n2,e2,l2⟩:=OT f o4;obtain ⟨n3,e3,l3⟩:=Ap n2 R l2 o6;obtain ⟨n4,e4,l4⟩:=pj n1 n3 l1 l3;obtain ⟨y1,f1,g1⟩:=mY v7 m1;obtain ⟨y2,f2,g2⟩:=mY y1 n4;obtain ⟨y3,f3,g3⟩:=mY y2 kt;obtain ⟨y4,f4,g4⟩:=mY y3 wt;obtain ⟨n5,e5,l5⟩:=Ap g p o0 o1;obtain ⟨n6,e6,l6⟩:=Ap g C o0 o2;obtain ⟨n7,e7,l7⟩:=OU n5 n6 l5 l6;obtain ⟨n8,e8,l8⟩:=Ap p C o1 o2;obtain ⟨n9,e9,l9⟩:=OU n7 n8 l7 l8;obtain ⟨y5,f5,g5⟩:=mY m2 n9;obtain ⟨y6,f6,g6⟩:=mY y4 y5;obtain ⟨y7,f7,g7⟩:=mY U y4;rw[e1.1,e2.1,e3.1,e4.1,f1.1,f2.1,f3.1,f4.1,e5.1,e6.1,e7.1,e8.1,e9.1,f5.1,f6.1,f7.1]at g';have l0:=Hq g';obtain ⟨_,e1⟩:=e1;obtain ⟨_,e2⟩:=e2;obtain ⟨_,e3⟩:=e3;obtain ⟨_,e4⟩:=e4;obtain ⟨_,e5⟩:=e5;obtain ⟨_,e6⟩:=e6;obtain ⟨_,e7⟩:=e7;obtain ⟨_,e8⟩:=e8;obtain ⟨_,e9⟩:=e9;obtain ⟨_,f1,n'⟩:=f1;obtain ⟨_,f2,o8⟩:=f2;obtain ⟨_,f3,o9⟩:=f3;obtain ⟨_,f4,o'⟩:=f4;obtain ⟨_,f5,p0⟩:=f5;obtain ⟨_,f6,p1⟩:=f6;obtain ⟨_,f7,p2⟩:=f7;clear hv hN g';go_wp2_with fail
    go_quiet (fail)
    revert nq;intro m9;go_wp2_with fail
    go_quiet ((go_at_call 284;exact PZ (M1 _)))
    revert nq;intro m';go_wp2_with fail
    go_quiet ((go_at_call 284;exact PZ (M2 _)))
    go_wp2_with fail;obtain ⟨wq,d9⟩:=kq ((wr.drewN (m9+m')).drewN nq);rw[<-d9];have bQ:HB wq V 350 [g,p,C,U,f,J,R,v7]:=by rw[d9];exact k0.out
    have j1:z.grownBy wq (some V):=by rw[d9];exact iT (iT o.out _) _
    clear d9;have m7:(Builtin.copy_ #[339,339] 3 #[.slice (some ⟨V,1,none⟩) 7 7, .slice (some ⟨V,0,none⟩) 7 8]).run prog wq.drew= .ok (ar 7) (wq.drew.setCells V 1 ([g,p,C,U,f,J,R].map eZ)):=by
     have c':ab wq.drew V 350 ([g,p,C,U,f,J,R,v7].map eZ):=bQ;have:=run_copy_cells (P:=prog) wq.drew 339 339 3 33 V 1 7 7 ⟨V,0,none⟩ 7 8 ([g,p,C,U,f,J,R].map eZ) underlying339 Af pu ?_ ?_ ?_ ?_
     ·exact this
     ·intro j v hj;have m8:j<7:=by have:=(mD.1 hj).1;simpa using this
      rw[show(⟨V,0,none⟩:Addr).add j=⟨V,j,none⟩from by cases j<;>simp[Addr.add],ab.cell c' j,<-hj,fQ,fQ];congr 1;rcases j with _|_|_|_|_|_|_|j<;>first|rfl|omega
     ·intro j hj;have m8:j<7:=by simpa using hj
      rw[ab.cell c' (1+j),aW pp];rfl
     ·intro j hj;exact ab.frozen c' _
     intro v hv;obtain ⟨n,_,rfl⟩:=eS.1 hv;rfl
    have bC:HB (wq.drew.setCells V 1 ([g,p,C,U,f,J,R].map eZ)) V 350 [g,g,p,C,U,f,J,R]:=by have c':HB wq.drew V 350 [g,p,C,U,f,J,R,v7]:=bQ;exact ((((((c'.set 1 g).set 2 p).set 3 C).set 4 U).set 5 f).set 6 J).set 7 R
    clear c0 c1 c2 c3 c4 c5 c6 c7;obtain ⟨wc,h5⟩:=kq (wq.drew.setCells V 1 ([g,p,C,U,f,J,R].map eZ));rw[<-h5]at m7 bC;have i':z.grownBy wc (some V):=by rw[h5];exact qm _ _ _ _ _ (aM j1)
    clear h5;obtain ⟨d0,d1,d2,d3,d4,d5,d6,d7⟩:=bC.eight;have h0:wc.frozen? ⟨V,0,none⟩=false:=ab.frozen bC 0;have h4:wc.frozen? ⟨V,4,none⟩=false:=ab.frozen bC 4;have bE:HB ((wc.setCell ⟨V,4,none⟩ (ay y7)).setCell ⟨V,0,none⟩ (ay y6)) V 350 L':=by have:=(bC.set 4 y7).set 0 y6;rw[l0.out];exact this
    have j0:=aw (aw i' 4 (ay y7)) 0 (ay y6);have j':=Hq bE;have k7:=Hq j0;clear bE j0 bC i' bQ j1 o;go_region;all_goals
     go_wp2;go_roundw
     case rel=>rw[show((U:Int)+((y1:Int)+(n4:Int)+(kt:Int)+(wt:Int)))%4294967296=(y7:Int)from pm,show((y1:Int)+(n4:Int)+(kt:Int)+(wt:Int)+(y5:Int))%4294967296=(y6:Int)from pm];exact ⟨t+1,pm,by go_num,by rw[<-k'.out];exact j',k7⟩
     case measure=>simp[intOf];omega
   obtain rfl:t=64:=pm;clear I;obtain ⟨r,hr⟩:=kq (rL (sched b 64) s 64);have lr:r.length=8:=by rw[hr];exact Jo (sched b 64) s HS.out 64
   have sr:fl r:=by rw[hr];exact Jp (sched b 64) s i3.out 64
   have f':=hL.out;rw[<-hr]at f';have b7:HB wr B 350 (oi s r 0):=ab.kept b5.out o.out pp;have d8:HB wr (B+1) 350 [0,0,0,0,0,0,0,0]:=ab.kept a9.out o.out pp;have j2:w.grownBy wr none:=cJ k9.out o.out (by have:=b9.out;omega);have i9:fV (lH s b)=fV (oi s r 8):=(by rw[aaU s r HS.out lr,hr];rfl);have k6:=Hq i9;have b6:=Hq lr;have n0:=Hq sr;have b0:=Hq f';have b5:=Hq b7;have a9:=Hq d8;have i2:=Hq j2;clear hr lr sr f' b7 d8 j2 i9 hL o;go_wp2_with fail;go_loopw [118] (λh9 wr=>∃i:Nat,i<=8/\h9=ar i/\Hid (HB wr B 350 (oi s r i))/\Hid (HB wr V 350 r)/\Hid (HB wr (B+1) 350 [0,0,0,0,0,0,0,0])/\Hid (w.grownBy wr none)) (λh9 _=>8-(intOf h9).toNat)
   case atStart=>exact ⟨0,pm,rfl,b5,b0,a9,i2⟩
   case round=>
    clear b5 b0 a9 i2;obtain ⟨i,hi,rfl,hL,b0,a9,o⟩:=hrel;by_cases I:i<8
    ·have bv:=b0.out;have cv:wr.cell? ⟨V,i,none⟩=some (ay (r.getD i 0:Nat)):=by have:=HB.cell bv i (by rw[b6.out];exact I);rw[this,dh,aW (by rw[b6.out];exact I)];rfl
     have cs:wr.cell? ⟨B,i,none⟩=some (ay (s.getD i 0:Nat)):=by have:=HB.cell hL.out i (by rw[Jw s r HS.out b6.out i hi];exact I);rw[this,aaV s r HS.out b6.out i I]
     have hf:wr.frozen? ⟨B,i,none⟩=false:=ab.frozen hL.out i;have a8:=hL.out.set i (df (s.getD i 0) (r.getD i 0));rw[aaX s r HS.out b6.out i I]at a8;have a':=cj o.out ⟨B,i,none⟩ (by have:=b9.out;simp;omega) (ay (df (s.getD i 0) (r.getD i 0):Nat));have g8:=aw (ak wr (some B)) i (ay (df (s.getD i 0) (r.getD i 0):Nat));have h2:HB (wr.setCell ⟨B,i,none⟩ (ay (df (s.getD i 0) (r.getD i 0):Nat))) V 350 r:=ab.kept b0.out g8 pp;have h1:HB (wr.setCell ⟨B,i,none⟩ (ay (df (s.getD i 0) (r.getD i 0):Nat))) (B+1) 350 [0,0,0,0,0,0,0,0]:=ab.kept a9.out g8 pu;obtain ⟨q,hq,lq⟩:=mY (s.getD i 0) (r.getD i 0);rw[hq.1]at a8 a' h2 h1;obtain ⟨_,q1,q2⟩:=hq;have c9:=Hq a8;have c8:=Hq a';have m6:=Hq h2;have m0:=Hq h1;have i8:(i:Int)<8:=pm;generalize s.getD i 0=xs at*;generalize r.getD i 0=xr at*;clear a8 a' bv hL o g8 h2 h1;go_wp2_with fail;go_still_tail 8,qr;change wpList _ _ _ _ _ wr.drew;go_wp2;go_roundw
     case rel=>exact ⟨_,_,_,_,_,_,_,_,_,_,_,_,_,⟨i+1,pm,by go_num,c9,m6,m0,aM c8⟩,rfl⟩
     case measure=>simp[intOf];omega
    obtain rfl:i=8:=pm;clear I;have lS:=Jw s r HS.out b6.out 8 hi;have bS:=hL.out;have bR:=a9.out;generalize oi s r 8=S' at*;obtain ⟨a0,a1,a2,a3,a4,a5,a6,a7,es⟩:=eight lS;rw[es]at bS;obtain ⟨c0,c1,c2,c3,c4,c5,c6,c7⟩:=bS.eight;obtain ⟨z0,z1,z2,z3,z4,z5,z6,z7⟩:=HB.eight bR;have f0:=ab.frozen bR 0;have f1:=ab.frozen bR 1;have f2:=ab.frozen bR 2;have f3:=ab.frozen bR 3;have f4:=ab.frozen bR 4;have f5:=ab.frozen bR 5;have f6:=ab.frozen bR 6;have f7:=ab.frozen bR 7;have i1:=Hq es
    skip
    have HZ:=Hq b9.out;clear es lS bS bR hL;go_wp2_with fail;refine bodyPost_ret (v:= .agg #[ay a0,ay a1,ay a2,ay a3,ay a4,ay a5,ay a6,ay a7]) (by simp[results,results265,go_sem,z0,z1,z2,z3,z4,z5,z6,z7]) rfl ?_;refine ⟨by have e:=k6.out;unfold fV at e;rw[e,i1.out];rfl,?_⟩;have hz:w.heap.size<=B+1:=(by have:=HZ.out;omega);exact cj (cj (cj (cj (cj (cj (cj (cj o.out _ hz _) _ hz _) _ hz _) _ hz _) _ hz _) _ hz _) _ hz _) _ hz _
def kv(w:World)(V:Nat)(L:Ln)(i j k l a b c d:Nat):Prop:=
 HB w V 344 L/\L[i]?=some a/\L[j]?=some b/\L[k]?=some c/\L[l]?=some d
def oY (h:HB w V t L)(e:L[i]?=some a):w.cell? ⟨V,i,none⟩=some (ay a):=by rw[ab.cell h,fQ,e];rfl
def Eo (e:L[i]?=some a):(L.set i n)[i]?=some n:=by rw[kN (mD.1 e).1]
def pv {b:Nat}(h:i≠j)(e:L[j]?=some b):(L.set i n)[j]?=some b:=by rw[lJ h,e]
def kv.cells {l b:Nat}(h:kv w V L i j k l a b c d):
 (w.cell? ⟨V,i,none⟩=some (ay a)/\w.cell? ⟨V,j,none⟩=some (ay b)/\w.cell? ⟨V,k,none⟩=some (ay c)/\w.cell? ⟨V,l,none⟩=some (ay d))/\
 w.frozen? ⟨V,i,none⟩=false/\w.frozen? ⟨V,j,none⟩=false/\w.frozen? ⟨V,k,none⟩=false/\w.frozen? ⟨V,l,none⟩=false:=
 ⟨⟨oY h.1 h.2.1,oY h.1 h.2.2.1,oY h.1 h.2.2.2.1,oY h.1 h.2.2.2.2⟩,ab.frozen h.1 i,ab.frozen h.1 j,ab.frozen h.1 k,ab.frozen h.1 l⟩
def xx(i j k l:Nat):Prop:=i≠j/\i≠k/\i≠l/\j≠k/\j≠l/\k≠l
def kv.Qr {l b:Nat}(h:kv w V L i j k l a b c d)(p:xx i j k l)(n:Nat):kv (w.setCell ⟨V,i,none⟩ (ay n)).drew V (L.set i n) i j k l n b c d:=
 ⟨HB.set h.1 i n,Eo h.2.1,pv p.1 h.2.2.1,pv p.2.1 h.2.2.2.1,pv p.2.2.1 h.2.2.2.2⟩
def kv.Qs {l b:Nat}(h:kv w V L i j k l a b c d)(p:xx i j k l)(n:Nat):kv (w.setCell ⟨V,j,none⟩ (ay n)).drew V (L.set j n) i j k l a n c d:=
 ⟨HB.set h.1 j n,pv p.1.symm h.2.1,Eo h.2.2.1,pv p.2.2.2.1 h.2.2.2.1,pv p.2.2.2.2.1 h.2.2.2.2⟩
def kv.Qt {l b:Nat}(h:kv w V L i j k l a b c d)(p:xx i j k l)(n:Nat):kv (w.setCell ⟨V,k,none⟩ (ay n)).drew V (L.set k n) i j k l a b n d:=
 ⟨HB.set h.1 k n,pv p.2.1.symm h.2.1,pv p.2.2.2.1.symm h.2.2.1,Eo h.2.2.2.1,pv p.2.2.2.2.2 h.2.2.2.2⟩
def kv.gW {l b:Nat}(h:kv w V L i j k l a b c d)(p:xx i j k l)(n:Nat):kv (w.setCell ⟨V,l,none⟩ (ay n)).drew V (L.set l n) i j k l a b c n:=
 ⟨HB.set h.1 l n,pv p.2.2.1.symm h.2.1,pv p.2.2.2.2.1.symm h.2.2.1,pv p.2.2.2.2.2.symm h.2.2.2.1,Eo h.2.2.2.2⟩
def aal (L:Ln)(i j k l a1 z c1 y a2 h g f:Nat)(p:xx i j k l):
 (((((((L.set i a1).set l z).set k c1).set j y).set i a2).set l h).set k g).set j f=(((L.set i a2).set j f).set k g).set l h:=by
 obtain ⟨C,I,J,R,U,h6⟩:=p;apply oy;intro n;simp only[qN,gL];by_cases o:i=n
 ·subst o;simp[C.symm,I.symm,J.symm]
 by_cases b:j=n
 ·subst b;simp[R.symm,U.symm]
 by_cases e:k=n
 ·subst e;simp[b,h6.symm]
 by_cases q:l=n
 ·subst q;simp[b,e]
 simp[o,b,e,q]
def getD_some (L:Ln)(i:Nat)(h:i<L.length):L[i]?=some (L.getD i 0):=by rw[dh,aW h];rfl
def DR (x s:Nat)(h:x<4294967296):∃c:Nat,eG x s=c/\c<4294967296:=⟨_,rfl,jr h⟩
def JZ(V:Nat)(L:Ln)(w:World)(e:Ending)(w':World):Prop:=e= .returned (.tuple #[])/\HB w' V 344 L/\w.grownBy w' (some V)
def V4 w (x:Nat)(b:x<4294967296):Calls prog 283 #[ay x,ar (-16)] w (pY (eG x 16) w):=nj x 16 _ w b qr pm pm
def U' w (x:Nat)(b:x<4294967296):Calls prog 283 #[ay x,ar (-12)] w (pY (eG x 20) w):=nj x 20 _ w b qr pm pm
def V9 w (x:Nat)(b:x<4294967296):Calls prog 283 #[ay x,ar (-8)] w (pY (eG x 24) w):=nj x 24 _ w b qr pm pm
def V6 w (x:Nat)(b:x<4294967296):Calls prog 283 #[ay x,ar (-7)] w (pY (eG x 25) w):=nj x 25 _ w b qr pm pm
def Vt w (V:Nat) L (i j k l x y:Nat)(hV:HB w V 344 L)(hL:L.length=16)(hs:fl L)(p:xx i j k l)(li:i<16)(lj:j<16)(lk:k<16)(ll:l<16)(hx:x<4294967296)(hy:y<4294967296):
 Calls prog 263 #[dy V 0, .agg #[ar i,ar j,ar k,ar l],ay x,ay y] w (JZ V (sE i j k l x y L) w):=by
 obtain ⟨a,ha⟩:=kq (L.getD i 0);obtain ⟨b,hb⟩:=kq (L.getD j 0);obtain ⟨c,hc⟩:=kq (L.getD k 0);obtain ⟨d,hd⟩:=kq (L.getD l 0);have la:a<4294967296:=by rw[ha];exact fS hs i
 have lb:b<4294967296:=by rw[hb];exact fS hs j
 have lc:c<4294967296:=by rw[hc];exact fS hs k
 have ld:d<4294967296:=by rw[hd];exact fS hs l
 have F:kv w V L i j k l a b c d:=⟨hV,by rw[ha];exact getD_some L i pm,by rw[hb];exact getD_some L j pm,by rw[hc];exact getD_some L k pm,by rw[hd];exact getD_some L l pm⟩;obtain ⟨t1,c3,i7⟩:=mY b x;obtain ⟨a1,a',g3⟩:=mY a t1;obtain ⟨n1,b8,e7⟩:=pj d a1 ld g3;obtain ⟨d1,b6,g8⟩:=DR n1 16 e7;obtain ⟨c1,e4,g6⟩:=mY c d1;obtain ⟨n2,b9,e8⟩:=pj b c1 lb g6;obtain ⟨U,b4,g5⟩:=DR n2 20 e8;obtain ⟨t2,c4,i8⟩:=mY U y;obtain ⟨a2,b3,g4⟩:=mY a1 t2;obtain ⟨n3,b',e9⟩:=pj d1 a2 g8 g4;obtain ⟨d2,b7,i6⟩:=DR n3 24 e9;obtain ⟨c2,e5,g7⟩:=mY c1 d2;obtain ⟨n4,c0,e'⟩:=pj U c2 g5 g7;obtain ⟨b2,b5,i5⟩:=DR n4 25 e';have e6:sE i j k l x y L=(((((((L.set i a1).set l d1).set k c1).set j U).set i a2).set l d2).set k c2).set j b2:=by rw[aal L i j k l a1 d1 c1 U a2 d2 c2 b2 p];unfold sE vN;simp only;rw[<-ha,<-hb,<-hc,<-hd];simp only[c3.1,a'.1,b8.1,b6,e4.1,b9.1,b4,c4.1,b3.1,b'.1,b7,e5.1,c0.1,b5]
 rw[e6];have f4:=Hq b6;have f0:=Hq b4;have f5:=Hq b7;have f3:=Hq b5;have f1:((a:Int)+((b:Int)+(x:Int)))%4294967296=(a1:Int):=by have:=c3.2.1;have:=a'.2.1;omega
 have f2:((a1:Int)+((U:Int)+(y:Int)))%4294967296=(a2:Int):=by have:=c4.2.1;have:=b3.2.1;omega
 obtain ⟨_,h',i2⟩:=c3;obtain ⟨_,g9,g'⟩:=a';have h6:=b8.2;obtain ⟨_,h2,h3⟩:=e4;have h7:=b9.2;obtain ⟨_,i3,i4⟩:=c4;obtain ⟨_,h0,h1⟩:=b3;have h8:=b'.2;obtain ⟨_,h4,h5⟩:=e5;have h9:=c0.2;clear b8 b9 b' c0;have f9:∀W:World,Calls prog 283 #[ay n1,ar (-16)] W λe w'=>e= .returned (ay d1)/\W=w':=λW=>by have:=V4 W n1 e7;rw[f4.out]at this;exact this
 have f7:∀W:World,Calls prog 283 #[ay n2,ar (-12)] W λe w'=>e= .returned (ay U)/\W=w':=λW=>by have:=U' W n2 e8;rw[f0.out]at this;exact this
 have f':∀W:World,Calls prog 283 #[ay n3,ar (-8)] W λe w'=>e= .returned (ay d2)/\W=w':=λW=>by have:=V9 W n3 e9;rw[f5.out]at this;exact this
 have f8:∀W:World,Calls prog 283 #[ay n4,ar (-7)] W λe w'=>e= .returned (ay b2)/\W=w':=λW=>by have:=V6 W n4 e';rw[f3.out]at this;exact this
 clear b6 b4 b7 b5;obtain ⟨z,hz⟩:=kq (w.alloc (.cells #[ar i,ar j,ar k,ar l] 345));obtain ⟨B,hB⟩:=kq w.heap.size;have c5:w.grownBy z none:=by rw[hz];exact aF (ak w none) _
 have bz:ab z B 345 [ar i,ar j,ar k,ar l]:=by rw[hz,hB];exact aO _ _
 have b0:=ab.cell bz 0;have g0:=ab.cell bz 1;have g1:=ab.cell bz 2;have g2:=ab.cell bz 3;have FZ:kv z V L i j k l a b c d:=⟨ab.kept F.1 c5 nofun,F.2⟩;have e2:=Hq FZ;have e3:=Hq (eo (r:=some V) c5);have HZ:=Hq hz;have f6:=Hq hB;have a8:=Hq p;have i0:(0:Int)<=(i:Int):=pm
 have i1:(i:Int)<16:=pm
 have j1:(j:Int)<16:=pm
 have k1:(k:Int)<16:=pm
 have l1:(l:Int)<16:=pm
 clear ha hb hc hd la lb lc ld hV hL hs p li lj lk ll F e6 hz hB c5 bz FZ;go_enter func263,ntmps263;go_upto_region 1with(fail);rw[<-f6.out,<-HZ.out]
 go_quiet (fail)
 clear b0 g0 g1 g2;obtain ⟨x0,a9⟩:=kq (z.drewN nq);have F0:Hid (kv x0 V L i j k l a b c d):=by rw[a9];exact e2.out
 have G0:Hid (w.grownBy x0 (some V)):=by rw[a9];exact Hq (iT e3.out _)
 rw[<-a9];clear a9 e2 e3;obtain ⟨⟨f,g,o,q⟩,C,I,J,R⟩:=F0.out.cells;have c6:=F0.out.Qr a8.out a1;have d5:=aM (aw G0.out i (ay a1));have F1:=Hq c6;have G1:=Hq d5;clear c6 d5 F0 G0;go_wp2_with fail;go_still_tail 10,qr;change wpList _ _ _ _ _ x0.drew;go_upto_region 3with(fail);generalize (x0.setCell ⟨V,i,none⟩ (ay a1)).drew=x1 at*;clear f g o q C I J R;obtain ⟨⟨f,g,o,q⟩,C,I,J,R⟩:=F1.out.cells;have c7:=F1.out.gW a8.out d1;have d6:=aM (aw G1.out l (ay d1));have F2:=Hq c7;have G2:=Hq d6;clear c7 d6 F1 G1;go_wp2_with fail;go_still_tail 10,qr;still_call((f9 _).mono (λe w' h=>⟨h.1,h.2.symm⟩));repeat still_step
 refine vA ?_;change wpList _ _ _ _ _ x1.drew;go_upto_region 4with(fail);generalize (x1.setCell ⟨V,l,none⟩ (ay d1)).drew=x2 at*;clear f g o q C I J R;obtain ⟨⟨f,g,o,q⟩,C,I,J,R⟩:=F2.out.cells;have c8:=F2.out.Qt a8.out c1;have d7:=aM (aw G2.out k (ay c1));have F3:=Hq c8;have G3:=Hq d7;clear c8 d7 F2 G2;go_wp2_with fail;go_still_tail 8,qr;change wpList _ _ _ _ _ x2.drew;go_upto_region 5with(fail);generalize (x2.setCell ⟨V,k,none⟩ (ay c1)).drew=x3 at*;clear f g o q C I J R;obtain ⟨⟨f,g,o,q⟩,C,I,J,R⟩:=F3.out.cells;have c9:=F3.out.Qs a8.out U;have d8:=aM (aw G3.out j (ay U));have F4:=Hq c9;have G4:=Hq d8;clear c9 d8 F3 G3;go_wp2_with fail;go_still_tail 10,qr;still_call((f7 _).mono (λe w' h=>⟨h.1,h.2.symm⟩));repeat still_step
 refine vA ?_;change wpList _ _ _ _ _ x3.drew;go_upto_region 6with(fail);generalize (x3.setCell ⟨V,j,none⟩ (ay U)).drew=x4 at*;clear f g o q C I J R;obtain ⟨⟨f,g,o,q⟩,C,I,J,R⟩:=F4.out.cells;have c':=F4.out.Qr a8.out a2;have d9:=aM (aw G4.out i (ay a2));have F5:=Hq c';have G5:=Hq d9;clear c' d9 F4 G4;go_wp2_with fail;go_still_tail 10,qr;change wpList _ _ _ _ _ x4.drew;go_upto_region 7with(fail);generalize (x4.setCell ⟨V,i,none⟩ (ay a2)).drew=x5 at*;clear f g o q C I J R;obtain ⟨⟨f,g,o,q⟩,C,I,J,R⟩:=F5.out.cells;have d0:=F5.out.gW a8.out d2;have d':=aM (aw G5.out l (ay d2));have F6:=Hq d0;have G6:=Hq d';clear d0 d' F5 G5;go_wp2_with fail;go_still_tail 10,qr;still_call((f' _).mono (λe w' h=>⟨h.1,h.2.symm⟩));repeat still_step
 refine vA ?_;change wpList _ _ _ _ _ x5.drew;go_upto_region 8with(fail);generalize (x5.setCell ⟨V,l,none⟩ (ay d2)).drew=x6 at*;clear f g o q C I J R;obtain ⟨⟨f,g,o,q⟩,C,I,J,R⟩:=F6.out.cells;have d3:=F6.out.Qt a8.out c2;have e0:=aM (aw G6.out k (ay c2));have F7:=Hq d3;have G7:=Hq e0;clear d3 e0 F6 G6;go_wp2_with fail;go_still_tail 8,qr;change wpList _ _ _ _ _ x6.drew;go_upto_region 9with(fail);generalize (x6.setCell ⟨V,k,none⟩ (ay c2)).drew=x7 at*;clear f g o q C I J R;obtain ⟨⟨f,g,o,q⟩,C,I,J,R⟩:=F7.out.cells;have d4:=F7.out.Qs a8.out b2;have e1:=aM (aw G7.out j (ay b2));have F8:=Hq d4;have G8:=Hq e1;clear d4 e1 F7 G7;go_wp2_with fail;go_still_tail 10,qr;still_call((f8 _).mono (λe w' h=>⟨h.1,h.2.symm⟩));repeat still_step
 refine vA ?_;change wpList _ _ _ _ _ x7.drew;go_wp2;go_end0;exact ⟨rfl,F8.out.1,G8.out⟩
def LV w:Calls prog 209 #[] w (Grown (.agg #[ay 1779033703,ay 3144134277,ay 1013904242,ay 2773480762,ay 1359893119,ay 2600822924,ay 528734635,ay 1541459225]) w):=by go_enter func209,ntmps209;go_wp2_with fail;refine bodyPost_ret (v:= .agg #[ay 1779033703,ay 3144134277,ay 1013904242,ay 2773480762,ay 1359893119,ay 2600822924,ay 528734635,ay 1541459225]) (by simp[results,results209,go_sem]) rfl ?_;exact ⟨rfl,aF (ak w none) _⟩
def c8(n:Nat):Value:=aB n
def pf:Lv:=[aB 0,aB 1,aB 2,aB 3,aB 4,aB 5,aB 6,aB 7,aB 8,aB 9,aB 10,aB 11,aB 12,aB 13,aB 14,aB 15,aB 14,aB 10,aB 4,aB 8,aB 9,aB 15,aB 13,aB 6,aB 1,aB 12,aB 0,aB 2,aB 11,aB 7,aB 5,aB 3,aB 11,aB 8,aB 12,aB 0,aB 5,aB 2,aB 15,aB 13,aB 10,aB 14,aB 3,aB 6,aB 7,aB 1,aB 9,aB 4,aB 7,aB 9,aB 3,aB 1,aB 13,aB 12,aB 11,aB 14,aB 2,aB 6,aB 5,aB 10,aB 4,aB 0,aB 15,aB 8,aB 9,aB 0,aB 5,aB 7,aB 2,aB 4,aB 10,aB 15,aB 14,aB 1,aB 11,aB 12,aB 6,aB 8,aB 3,aB 13,aB 2,aB 12,aB 6,aB 10,aB 0,aB 11,aB 8,aB 3,aB 4,aB 13,aB 7,aB 5,aB 15,aB 14,aB 1,aB 9,aB 12,aB 5,aB 1,aB 15,aB 14,aB 13,aB 4,aB 10,aB 0,aB 7,aB 6,aB 3,aB 9,aB 2,aB 8,aB 11,aB 13,aB 11,aB 7,aB 14,aB 12,aB 1,aB 3,aB 9,aB 5,aB 0,aB 15,aB 4,aB 8,aB 6,aB 2,aB 10,aB 6,aB 15,aB 14,aB 9,aB 11,aB 3,aB 0,aB 8,aB 12,aB 2,aB 13,aB 7,aB 1,aB 4,aB 10,aB 5,aB 10,aB 2,aB 8,aB 4,aB 7,aB 6,aB 1,aB 5,aB 15,aB 11,aB 9,aB 14,aB 3,aB 12,aB 13,aB 0]
def zL:Lv:=List.replicate 160 (aB 0)
def wv:Lv:=[ar 0,ar 4,ar 8,ar 12,ar 1,ar 5,ar 9,ar 13,ar 2,ar 6,ar 10,ar 14,ar 3,ar 7,ar 11,ar 15,ar 0,ar 5,ar 10,ar 15,ar 1,ar 6,ar 11,ar 12,ar 2,ar 7,ar 8,ar 13,ar 3,ar 4,ar 9,ar 14]
def ZO (W:World):∀r:Nat,r<10->(Instr.index 347 (.agg pf.toArray) (ar r)).run prog W= .ok (.agg ((xJ.getD r []).map c8).toArray) W
 |0,_=>by kernel_rfl
 |1,_=>by kernel_rfl
 |2,_=>by kernel_rfl
 |3,_=>by kernel_rfl
 |4,_=>by kernel_rfl
 |5,_=>by kernel_rfl
 |6,_=>by kernel_rfl
 |7,_=>by kernel_rfl
 |8,_=>by kernel_rfl
 |9,_=>by kernel_rfl
 |n+10,h=>absurd h pm
def M8 (W:World):∀i:Nat,i<8->(Instr.index 346 (.agg wv.toArray) (ar i)).run prog W= .ok (.agg #[ar ((fq.getD i []).getD 0 0:Nat),ar ((fq.getD i []).getD 1 0:Nat),ar ((fq.getD i []).getD 2 0:Nat),ar ((fq.getD i []).getD 3 0:Nat)]) W
 |0,_=>by kernel_rfl
 |1,_=>by kernel_rfl
 |2,_=>by kernel_rfl
 |3,_=>by kernel_rfl
 |4,_=>by kernel_rfl
 |5,_=>by kernel_rfl
 |6,_=>by kernel_rfl
 |7,_=>by kernel_rfl
 |n+8,h=>absurd h pm
def ZQ:∀r:Nat,r<10->∀j:Nat,j<16->(xJ.getD r []).getD j 0<16:=wl
def ZP:∀r:Nat,r<10->(xJ.getD r []).length=16:=wl
def M9:∀i:Nat,i<8->((fq.getD i []).getD 0 0<16/\(fq.getD i []).getD 1 0<16/\(fq.getD i []).getD 2 0<16/\(fq.getD i []).getD 3 0<16)/\
 (fq.getD i []).getD 0 0≠(fq.getD i []).getD 1 0/\(fq.getD i []).getD 0 0≠(fq.getD i []).getD 2 0/\(fq.getD i []).getD 0 0≠(fq.getD i []).getD 3 0/\(fq.getD i []).getD 1 0≠(fq.getD i []).getD 2 0/\(fq.getD i []).getD 1 0≠(fq.getD i []).getD 3 0/\(fq.getD i []).getD 2 0≠(fq.getD i []).getD 3 0:=wl
def rB(r:Nat):Array Value:=((xJ.getD r []).map c8).toArray
def Zo:pf.toArray.all (·.oneCell')=true:=qr
def YN:(prog.info? 347).map (·.size)=some pf.length:=qr
def YO:(prog.info? 347).map (·.size)=some pf.toArray.size:=qr
def Vi w:Calls prog 262 #[] w (Grown (.agg pf.toArray) w):=by
 have hz:∀W:World,(zeroValue 347).run prog W= .ok (.agg zL.toArray) W:=λW=>by kernel_rfl
 have C:zL.length=pf.length:=qr
 have I:zL.length=pf.toArray.size:=qr
 obtain ⟨Z,hZ⟩:=kq zL;rw[<-hZ]at hz C I;obtain ⟨x,b⟩:=kq (w.alloc (.cells Z.toArray 347));have g:ab x w.heap.size 347 Z:=by rw[b];exact aO _ _
 have z:x.there w.heap.size 0 pf.toArray.size:=g.there _ I;have f:=g.store pf C.symm;have h:w.grownBy (x.setCells w.heap.size 0 pf.toArray.toList) none:=uu (by rw[b];exact aF (ak w none) _) _ (bm _) _ _;have y:=Zo;have o:=YN;have p:=YO;obtain ⟨L,e⟩:=kq pf;rw[<-e]at z f h y o p⊢;have HL:=Hq e;have HW:=Hq f;have HG:=Hq h;have HX:=Hq b;have HT:=Hq z;have HO:=Hq y;have b7:=Hq o;have b8:=Hq p;clear g f h b z e y o p hZ C I;obtain ⟨q0,a8⟩:∃q,q=rB 0:=⟨_,rfl⟩;have J:=Hq a8;clear a8;obtain ⟨q1,a9⟩:∃q,q=rB 1:=⟨_,rfl⟩;have R:=Hq a9;clear a9;obtain ⟨q2,a'⟩:∃q,q=rB 2:=⟨_,rfl⟩;have U:=Hq a';clear a';obtain ⟨q3,b0⟩:∃q,q=rB 3:=⟨_,rfl⟩;have Q3:=Hq b0;clear b0;obtain ⟨q4,b1⟩:∃q,q=rB 4:=⟨_,rfl⟩;have Q4:=Hq b1;clear b1;obtain ⟨q5,b2⟩:∃q,q=rB 5:=⟨_,rfl⟩;have Q5:=Hq b2;clear b2;obtain ⟨q6,b3⟩:∃q,q=rB 6:=⟨_,rfl⟩;have Q6:=Hq b3;clear b3;obtain ⟨q7,b4⟩:∃q,q=rB 7:=⟨_,rfl⟩;have Q7:=Hq b4;clear b4;obtain ⟨q8,b5⟩:∃q,q=rB 8:=⟨_,rfl⟩;have Q8:=Hq b5;clear b5;obtain ⟨q9,b6⟩:∃q,q=rB 9:=⟨_,rfl⟩;have Q9:=Hq b6;clear b6;go_enter func262,ntmps262;go_upto_region 1with(fail);rw[<-HX.out];refine oB ?_;refine Go.Great.wpList_readTo rfl _ rfl (.agg q0) ?_ ?_
 ·rw[J.out];kernel_rfl
 refine Go.Great.wpList_readTo rfl _ rfl (.agg q1) ?_ ?_
 ·rw[R.out];kernel_rfl
 refine Go.Great.wpList_readTo rfl _ rfl (.agg q2) ?_ ?_
 ·rw[U.out];kernel_rfl
 refine Go.Great.wpList_readTo rfl _ rfl (.agg q3) ?_ ?_
 ·rw[Q3.out];kernel_rfl
 refine Go.Great.wpList_readTo rfl _ rfl (.agg q4) ?_ ?_
 ·rw[Q4.out];kernel_rfl
 refine Go.Great.wpList_readTo rfl _ rfl (.agg q5) ?_ ?_
 ·rw[Q5.out];kernel_rfl
 refine Go.Great.wpList_readTo rfl _ rfl (.agg q6) ?_ ?_
 ·rw[Q6.out];kernel_rfl
 refine Go.Great.wpList_readTo rfl _ rfl (.agg q7) ?_ ?_
 ·rw[Q7.out];kernel_rfl
 refine Go.Great.wpList_readTo rfl _ rfl (.agg q8) ?_ ?_
 ·rw[Q8.out];kernel_rfl
 refine Go.Great.wpList_readTo rfl _ rfl (.agg q9) ?_ ?_
 ·rw[Q9.out];kernel_rfl
 refine Go.Great.wpList_readTo rfl _ rfl (.agg L.toArray) ?_ ?_
 ·rw[HL.out,J.out,R.out,U.out,Q3.out,Q4.out,Q5.out,Q6.out,Q7.out,Q8.out,Q9.out];kernel_rfl
 refine wpList_store_mid rfl 347 _ _ rfl w.heap.size 0 L.toArray (by simp[Act.eval,Act.put]) (by simp[Act.eval,Act.put]) HT.out b8.out HO.out ?_;refine oD ?_;go_wp2_with fail;refine bodyPost_ret (v:= .agg L.toArray) (uJ results262 _ _ w.heap.size rfl L _ HW.out underlying347 rfl b7.out) rfl ?_;exact ⟨rfl,HG.out⟩
def Jn:fl fj:=by unfold fl;decide+kernel
def Oa:fj.map eZ=[.int .u32 1779033703, .int .u32 3144134277, .int .u32 1013904242, .int .u32 2773480762, .int .u32 1359893119, .int .u32 2600822924, .int .u32 528734635, .int .u32 1541459225]:=by simp only[fj,eZ,oC,tO,BH]
def TY w:Calls prog 264 #[] w (Grown (.agg #[.int .u32 1779033703, .int .u32 3144134277, .int .u32 1013904242, .int .u32 2773480762, .int .u32 1359893119, .int .u32 2600822924, .int .u32 528734635, .int .u32 1541459225]) w):=by go_enter func264,ntmps264;go_wp2_with fail;refine bodyPost_ret (v:= .agg #[.int .u32 1779033703, .int .u32 3144134277, .int .u32 1013904242, .int .u32 2773480762, .int .u32 1359893119, .int .u32 2600822924, .int .u32 528734635, .int .u32 1541459225]) (by simp[results,results264,go_sem]) rfl ?_;exact ⟨rfl,aF (ak w none) _⟩
def fK(w:World)(P:Nat)(s:Ln)(r:Lb)(m:Nat):Prop:=ab w P 353 (s.map eZ++[S r, .int .u64 m])
def fK.drew (h:fK w P s r m):fK w.drew P s r m:=h
def fK.kept {x:Option Nat}(h:fK w P s r m)(g:w.grownBy w' x)(b:some P≠x):fK w' P s r m:=ab.kept h g b
def RH(w:World)(e:Ending)(w':World):Prop:=∃P,e= .returned (.pointer (some ⟨P,0,none⟩))/\fK w' P fj [] 0/\w.grownBy w' none/\w.heap.size<=P
def VA w:Calls prog 211 #[] w (RH w):=by
 go_enter func211,ntmps211;go_wp2_with fail;refine ax (TY _) λg f=>?_;have e:fK (g.alloc (.cells #[.int .u32 1779033703, .int .u32 3144134277, .int .u32 1013904242, .int .u32 2773480762, .int .u32 1359893119, .int .u32 2600822924, .int .u32 528734635, .int .u32 1541459225, .string ⟨#[]⟩, .int .u64 0] 353)) g.heap.size fj [] 0:=by unfold fK;rw[Oa];exact aO _ _
 have h:=Hq e;have b:=Hq f;clear e f;go_wp2;go_ret;exact ⟨_,rfl,h.out,aF b.out _,b.out.size⟩
def fK.cells (h:fK w P [a0,a1,a2,a3,a4,a5,a6,a7] r m):
 (w.cell? ⟨P,0,none⟩=some (.int .u32 a0)/\w.cell? ⟨P,1,none⟩=some (.int .u32 a1)/\w.cell? ⟨P,2,none⟩=some (.int .u32 a2)/\w.cell? ⟨P,3,none⟩=some (.int .u32 a3)/\
 w.cell? ⟨P,4,none⟩=some (.int .u32 a4)/\w.cell? ⟨P,5,none⟩=some (.int .u32 a5)/\w.cell? ⟨P,6,none⟩=some (.int .u32 a6)/\w.cell? ⟨P,7,none⟩=some (.int .u32 a7))/\
 w.cell? ⟨P,8,none⟩=some (.string ⟨r.toArray⟩)/\w.cell? ⟨P,9,none⟩=some (.int .u64 m):=
 ⟨⟨ab.cell h 0,ab.cell h 1,ab.cell h 2,ab.cell h 3,ab.cell h 4,ab.cell h 5,ab.cell h 6,ab.cell h 7⟩,ab.cell h 8,ab.cell h 9⟩
def fK.frozen (h:fK w P s r m)(i:Nat):w.frozen? ⟨P,i,none⟩=false:=ab.frozen h i
def fK.Jl (h:fK w P s r m)(b:s.length=8)(n:Nat):fK (w.setCell ⟨P,9,none⟩ (.int .u64 n)) P s r n:=by obtain ⟨a0,a1,a2,a3,a4,a5,a6,a7,rfl⟩:=eight b;exact ab.set h 9 _
def fK.Qw (h:fK w P s r m)(b:s.length=8)(u:Lb):fK (w.setCell ⟨P,8,none⟩ (.string ⟨u.toArray⟩)) P s u m:=by obtain ⟨a0,a1,a2,a3,a4,a5,a6,a7,rfl⟩:=eight b;exact ab.set h 8 _
def fK.aaj (h:fK w P s r m)(z:s.length=8)(b e f g o p q y:Nat):
 fK ((((((((w.setCell ⟨P,0,none⟩ (.int .u32 b)).setCell ⟨P,1,none⟩ (.int .u32 e)).setCell ⟨P,2,none⟩ (.int .u32 f)).setCell ⟨P,3,none⟩ (.int .u32 g)).setCell ⟨P,4,none⟩ (.int .u32 o)).setCell ⟨P,5,none⟩ (.int .u32 p)).setCell ⟨P,6,none⟩ (.int .u32 q)).setCell ⟨P,7,none⟩ (.int .u32 y)) P [b,e,f,g,o,p,q,y] r m:=by
 obtain ⟨a0,a1,a2,a3,a4,a5,a6,a7,rfl⟩:=eight z;exact ab.set (ab.set (ab.set (ab.set (ab.set (ab.set (ab.set (ab.set h 0 _) 1 _) 2 _) 3 _) 4 _) 5 _) 6 _) 7 _
def XY {a:World}(h:a.grownBy w (some P))(b e f g o p q y:Value):a.grownBy ((((((((w.setCell ⟨P,0,none⟩ b).setCell ⟨P,1,none⟩ e).setCell ⟨P,2,none⟩ f).setCell ⟨P,3,none⟩ g).setCell ⟨P,4,none⟩ o).setCell ⟨P,5,none⟩ p).setCell ⟨P,6,none⟩ q).setCell ⟨P,7,none⟩ y) (some P):=
 aw (aw (aw (aw (aw (aw (aw (aw h _ _) _ _) _ _) _ _) _ _) _ _) _ _) _ _
def RR(P:Nat)(s:Ln)(r:Lb)(m:Nat)(w:World)(e:Ending)(w':World):Prop:=e= .returned (.tuple #[])/\fK w' P s r m/\w.grownBy w' (some P)
def sg(s:Ln)(r:Lb)(X:Ln×Lb):Prop:=∃f,r.length<=64*f/\ed f s r=X
def sg.more {X:Ln×Lb}(h:sg s r X)(e:64<=r.length):sg (lH s (r.take 64)) (r.drop 64) X:=by
 obtain ⟨f,g,b⟩:=h;cases f with
 |zero=>omega
 |succ f=>rw[ed,av e]at b;exact ⟨f,by rw[aR];omega,b⟩
def sg.done {X:Ln×Lb}(h:sg s r X)(e:¬64<=r.length):X=(s,r):=by
 obtain ⟨f,g,b⟩:=h;cases f with
 |zero=>exact b.symm
 |succ f=>rw[ed,au e]at b;exact b.symm
def JF s b:fl (lH s b):=by intro x e;unfold lH tv at e;obtain ⟨i,f,rfl⟩:=List.mem_iff_getElem.1 e;rw[Bv];exact qA _ _
def Wt w (P:Nat) s (r t:Lb)(m:Nat)(R:fK w P s r m)(o:s.length=8)(a9:fl s)(hm:m<18446744073709551616)(hl:r.length+t.length<=9223372036854775807):
 Calls prog 212 #[.pointer (some ⟨P,0,none⟩),S t] w (RR P (ed (r.length+t.length) s (r++t)).1 (ed (r.length+t.length) s (r++t)).2 ((m+t.length)%18446744073709551616) w):=by
 obtain ⟨n,U⟩:=kq ((m+t.length)%18446744073709551616);obtain ⟨u,hu⟩:=kq (r++t);have z:sg s u (ed (r.length+t.length) s (r++t)):=⟨r.length+t.length,by rw[hu,aK];omega,by rw[hu]⟩;rw[<-U];generalize ed (r.length+t.length) s (r++t)=X at*;have HD:=Hq z;have y:=R;obtain ⟨a0,a1,a2,a3,a4,a5,a6,a7,q⟩:=eight o;rw[q]at y;obtain ⟨_,c8,c9⟩:=y.cells;have f8:=R.frozen 8;have f9:=R.frozen 9;have h2:=(R.Jl o n).Qw o u;have b':=aw (aw (ak w (some P)) 9 (.int .u64 n)) 8 (.string ⟨u.toArray⟩);have C:u.length=r.length+t.length:=by rw[hu,aK]
 have e1:IntKind.u64.wrap ((m:Int)+IntKind.u64.wrap (t.length:Int))=(n:Int):=by rw[U,oz,oz];omega
 have e2:((m:Int)+(t.length:Int))%18446744073709551616=(n:Int):=by rw[U];omega
 have e3:IntKind.u64.wrap ((t.length:Int))=(t.length:Int):=dE _ pm;have e4:IntKind.u64.wrap ((m:Int)+(t.length:Int))=(n:Int):=by rw[U,oz];omega
 have H2:=Hq h2;have a':=Hq b';have HU:=Hq hu;have HS:=Hq o;have b9:=Hq a9;have LU:=Hq C;have r1:=eD;have r2:=dP;clear U hu z R y q h2 b' o a9 hm C;unfold S;go_enter func212,ntmps212;go_upto_region 2with(fail);rw[<-HU.out];clear c8 c9 f8 f9 e1 e2 e3 e4;obtain ⟨x,hx⟩:=kq ((w.setCell ⟨P,9,none⟩ (.int .u64 n)).setCell ⟨P,8,none⟩ (.string ⟨u.toArray⟩));rw[<-hx]at H2 a'⊢;clear hx;have C:u.length<=9223372036854775807:=by have:=LU.out;omega
 go_loopw [22] (λd1 wr=>∃(g:Ln) (f:Lb),Hid (fK wr P g f n)/\Hid (g.length=8)/\Hid (fl g)/\Hid (sg g f X)/\f.length<=9223372036854775807/\Hid (w.grownBy wr (some P))) (λ_ wr=>match wr.cell? ⟨P,8,none⟩with|some (.string b)=>b.size|_=>0)
 case atStart=>exact ⟨s,u,H2,HS,b9,HD,C,a'⟩
 case round=>
  clear H2 a' HD C LU HU HS b9 hl;obtain ⟨g,f,J,o,a9,z,C,hg⟩:=hrel;obtain ⟨a0,a1,a2,a3,a4,a5,a6,a7,q⟩:=eight o.out;have y:=J.out;rw[q]at y;obtain ⟨⟨c0,c1,c2,c3,c4,c5,c6,c7⟩,c8,_⟩:=y.cells;by_cases a8:64<=f.length
  ·have A1:∀W:World,Calls prog 265 #[fV g,S (f.take 64)] W (Grown (fV (lH g (f.take 64))) W):=λW=>Mm W g (f.take 64) o.out a9.out (by rw[aJ];omega);have d0:=Hq (z.out.more a8);have lT:=JE g (f.take 64) o.out;have sT:=Hq (JF g (f.take 64));generalize lH g (f.take 64)=T at*;obtain ⟨b0,b1,b2,b3,b4,b5,b6,b7,eT⟩:=eight lT;have hA:fV g= .agg #[.int .u32 a0, .int .u32 a1, .int .u32 a2, .int .u32 a3, .int .u32 a4, .int .u32 a5, .int .u32 a6, .int .u32 a7]:=(by rw[q];rfl);have hT:fV T= .agg #[.int .u32 b0, .int .u32 b1, .int .u32 b2, .int .u32 b3, .int .u32 b4, .int .u32 b5, .int .u32 b6, .int .u32 b7]:=(by rw[eT];rfl);rw[hA,hT]at A1;unfold S at A1;have p:=J.out.frozen;have f0:=p 0;have f1:=p 1;have f2:=p 2;have f3:=p 3;have f4:=p 4;have f5:=p 5;have f6:=p 6;have f7:=p 7;have ET:=Hq eT;have ES:=Hq q;have LT:=Hq lT;clear p hA hT y q eT lT;have q1:(64:Int)<=(f.length:Int):=pm;have q2:decide (64<=f.length)=true:=by simpa using a8
   go_wp2_with fail;go_region_with (first
    |(go_at_call 265;(with_reducible refine (A1 _).mono ?_);rintro e x1 ⟨rfl,b8⟩;have h:=fK.kept (fK.drew J.out) b8 nofun;have k0:=h.frozen 0;have k1:=h.frozen 1;have k2:=h.frozen 2;have k3:=h.frozen 3;have k4:=h.frozen 4;have k5:=h.frozen 5;have k6:=h.frozen 6;have k7:=h.frozen 7;have hq:=h;rw[ES.out]at hq;obtain ⟨⟨n0,n1,n2,n3,n4,n5,n6,n7⟩,n8,n9⟩:=hq.cells;clear hq))
   all_goals
    have I:=h.aaj o.out b0 b1 b2 b3 b4 b5 b6 b7;rw[<-ET.out]at I;have c':=XY (P:=P) (ai (aM hg.out) (eo b8)) (.int .u32 b0) (.int .u32 b1) (.int .u32 b2) (.int .u32 b3) (.int .u32 b4) (.int .u32 b5) (.int .u32 b6) (.int .u32 b7);generalize ((((((((x1.setCell ⟨P,0,none⟩ (.int .u32 b0)).setCell ⟨P,1,none⟩ (.int .u32 b1)).setCell ⟨P,2,none⟩ (.int .u32 b2)).setCell ⟨P,3,none⟩ (.int .u32 b3)).setCell ⟨P,4,none⟩ (.int .u32 b4)).setCell ⟨P,5,none⟩ (.int .u32 b5)).setCell ⟨P,6,none⟩ (.int .u32 b6)).setCell ⟨P,7,none⟩ (.int .u32 b7))=x2 at*;have h4:=I;rw[ET.out]at h4;obtain ⟨_,m8,_⟩:=h4.cells;have mf:=I.frozen 8;have h5:=Hq (I.Qw LT.out (f.drop 64));have h6:=Hq (aw c' 8 (.string ⟨(f.drop 64).toArray⟩));have hm:f.drop 64=(f.drop 64).take (f.length-64):=by rw[cE (by rw[aR];omega)]
    have HM:=Hq hm;clear I h4 c' hm n0 n1 n2 n3 n4 n5 n6 n7 n8 n9 k0 k1 k2 k3 k4 k5 k6 k7 h b8 hg J z;go_wp2;go_roundw
    case rel=>exact ⟨T,f.drop 64,by have e:=h5.out;first|exact Hq e|(rw[<-HM.out];exact Hq e),LT,sT,d0,by rw[aR];omega,by have e:=h6.out;first|exact Hq e|(rw[<-HM.out];exact Hq e)⟩
    case measure=>have e5:=h5.out;rw[ET.out]at e5;obtain ⟨_,e8,_⟩:=e5.cells;rw[<-HM.out,e8,c8];simp[ByteArray.size];omega
  have hX:=Hq (z.out.done a8);have q2:decide (64<=f.length)=false:=by simpa using a8
  have q3:¬(64:Int)<=(f.length:Int):=pm
  clear q y z;go_wp2;go_end0;have e:=hX.out;rw[e];exact ⟨rfl,J.out,hg.out⟩
def dJ(w:World)(base:Nat)(v:Value)(l:Lb):Prop:=
 ∃g b,v= .slice (some ⟨g,0,none⟩) l.length b/\base<=g/\g<w.heap.size/\l.length<=b/\b<=maxLen/\gM w g l/\
  ∀i,i<b->(w.cell? ⟨g,i,none⟩).isSome=true/\w.frozen? ⟨g,i,none⟩=false
def Fz (g i:Nat):(⟨g,0,none⟩:Addr).add i=⟨g,i,none⟩:=by unfold Addr.add;split<;>simp_all
def KV {base:Nat}(h:dq w base' v l)(U:base<=base')(z:l≠[]):dJ w base v l:=by
 have R:=h;unfold dq at h;rcases h.2with⟨_,C⟩|⟨g,o,p,J,a8,b,I,y,a9,a'⟩
 ·exact absurd (pG C) z
 subst J;refine ⟨g,o,rfl,pm,kE b,I,y,λi f=>⟨?_,nV b i⟩,λi f=>⟨?_,nV b i⟩⟩
 ·have q:(l.map aS)[i]?=some (aS l[i]):=by simp[f]
  have e:=h.cells (g:=g) rfl i _ q;rw[Fz]at e;exact e
 rw[cK b];have:i<p.size:=pm
 simp[this]
def dJ.kept {base:Nat}{r:Option Nat}(h:dJ w base v l)(g:w.grownBy w' r)(U:v.ownBlock≠r):dJ w' base v l:=by
 obtain ⟨b,q,p,y,f,z,C,I,J⟩:=h;have o:some b≠r:=by subst p;exact U
 refine ⟨b,q,p,y,fW f g.size,z,C,I.kept f g o,λi R=>?_⟩;have e:=g.block b f o;rw[Bs (a:=⟨b,i,none⟩) e,World.frozen?_of_block (a:=⟨b,i,none⟩) e];exact J i R
def dJ.drew {base:Nat}(h:dJ w base v l):dJ w.drew base v l:=h
def dJ.alloc {base:Nat}(h:dJ w base v l)(o:Obj):dJ (w.alloc o) base v l:=
 h.kept (r:=none) (aT _ _ _) (by obtain ⟨b,f,e,_⟩:=h;subst e;simp[Value.ownBlock])
def dJ.mono {base:Nat}(h:dJ w base' v l)(p:base<=base'):dJ w base v l:=by obtain ⟨b,e,g,o,f⟩:=h;exact ⟨b,e,g,pm,f⟩
def dJ.own {base:Nat}(h:dJ w base v l):∃b,v.ownBlock=some b/\base<=b/\b<w.heap.size:=by obtain ⟨b,o,g,e,f,_⟩:=h;exact ⟨b,by rw[g];rfl,e,f⟩
def KU {base:Nat}(h:dJ w base v l)(B c:Nat)(hB:∀j (f:j<cs.length),w.cell? ⟨B,j,none⟩=some (aS cs[j]))(b6:l.length+cs.length<=140737488355328)(a':base<=w.heap.size):
 ∃z w',(Builtin.append_ #[83,83] 83 #[v, .slice (some ⟨B,0,none⟩) cs.length c]).run prog w= .ok z w'/\dJ w' base z (l++cs)/\w.grownBy w' v.ownBlock/\(z.ownBlock=v.ownBlock\/dJ w' w.heap.size z (l++cs)):=by
 obtain ⟨i0,p,b4,I,b5⟩:=mF Ag;obtain ⟨g,J,hv,h1,h2,h3,h4,h5,y⟩:=h;subst hv;have a9:∀(j:Nat) u,(cs.map aS)[j]?=some u->w.cell? ((⟨B,0,none⟩:Addr).add j)=some u:=by
  intro j u o;rw[Fz];by_cases f:j<cs.length
  ·rw[hB j f];simp[f]at o;rw[o]
  rw[eE (by simpa using f)]at o;cases o
 have b2:∀u∈cs.map aS,u.oneCell'=true:=by intro u o;obtain ⟨b,_,rfl⟩:=eS.1 o;rfl
 by_cases a8:l.length+cs.length<=J
 ·have R:=run_append_room_cells (P:=prog) w 83 83 5 i0 underlying83 p g 0 l.length J ⟨B,0,none⟩ cs.length c (cs.map aS) (by simp[I]) a9 b2 a8
   (λj f=>by rw[I,ef,xv];exact (y _ (by simp at f;omega)).1) (λj f=>by rw[I,ef,xv];exact (y _ (by simp at f;omega)).2)
  rw[I,ef,xv]at R;refine ⟨_,_,R,⟨g,J,by rw[aK],h1,?_,by rw[aK];exact a8,h4,λi p=>⟨?_,?_⟩,λi p=>⟨?_,?_⟩⟩,qm g _ _ _ _ (ak w _),Or.inl rfl⟩
  ·exact fW h2 (qm g (cs.map aS) l.length w w (ak w _)).size
  ·by_cases q:i<l.length
   ·rw[World.cell?_setCells_out g _ _ _ _ (λ_ _=>Or.inl q),(h5 i q).1,EM q]
   have C:=World.cell?_setCells_in g (cs.map aS) l.length w (λj f=>(y _ (by simp at f;omega)).1) (i-l.length) (by rw[aK]at p;simp;omega);rw[show l.length+(i-l.length)=i from pm]at C;rw[C,uV pm];simp[aS]
  ·rw[World.frozen?_setCells];exact (y i (by rw[aK]at p;omega)).2
  ·by_cases q:i<l.length\/l.length+cs.length<=i
   ·rw[World.cell?_setCells_out g _ _ _ _ (λ_ _=>by simpa using q)];exact (y i p).1
   have C:=World.cell?_setCells_in g (cs.map aS) l.length w (λj f=>(y _ (by simp at f;omega)).1) (i-l.length) pp;rw[show l.length+(i-l.length)=i from pm]at C;rw[C];rfl
  rw[World.frozen?_setCells];exact (y i p).2
 have b1:∀(j:Nat) u,(l.map aS)[j]?=some u->w.cell? ((⟨g,0,none⟩:Addr).add j)=some u:=by
  intro j u o;rw[Fz];by_cases f:j<l.length
  ·rw[h5.cell j f];simp[f,aS]at o;rw[o]
  rw[eE (by simpa using f)]at o;cases o
 obtain ⟨z,w',R,b3,hg⟩:=run_append_arg_grows (P:=prog) w 83 83 5 i0 (aB 0) 1 1 underlying83 p b4 I b5 rfl pm ⟨g,0,none⟩ l.length J (l.map aS) pu b1 ⟨B,0,none⟩ cs.length c (cs.map aS) pu a9 pm (by unfold maxLen;omega) pm;have hb:∀U,U<=w.heap.size->dJ w' U z (l++cs):=λU b0=>by
  refine KV (base':=w.heap.size) ?_ b0 (by intro e;have:(l++cs).length=0:=(by rw[e];rfl);rw[aK]at this;omega)
  unfold dq;rw[aK,jW];exact b3
 exact ⟨z,w',R,hb base a',eo hg,Or.inr (hb _ (bm _))⟩
def Tl {base:Nat}(h:dJ w base v l)(B c:Nat)(o:∀j (y:j<cs.length),w.cell? ⟨B,j,none⟩=some (aS cs[j]))(q:l.length+cs.length<=140737488355328)(p:base<=w.heap.size):
 ∃b w',(Builtin.append_ #[83,83] 83 #[v, .slice (some ⟨B,0,none⟩) cs.length c]).run prog w= .ok b w'/\dJ w' base b (l++cs)/\w.grownBy w' v.ownBlock:=by
 obtain ⟨b,w',e,f,g,_⟩:=KU h B c o q p;exact ⟨b,w',e,f,g⟩
def Tk {base:Nat}(c:UInt8)(h:dJ w base v l)(q:l.length+1<=140737488355328)(y:base<=w.heap.size):
 ∃b w',(Builtin.append_ #[83,83] 83 #[v, .slice (some ⟨w.heap.size,0,none⟩) 1 1]).run prog (w.alloc (.cells #[aB c.toNat] 5))= .ok b w'/\dJ w' base b (l++[c])/\w.grownBy w' v.ownBlock/\(b.ownBlock=v.ownBlock\/dJ w' w.heap.size b (l++[c])):=by
 obtain ⟨b,w',p,e,f,g⟩:=KU (cs:=[c]) (h.alloc (.cells #[aB c.toNat] 5)) w.heap.size 1 (λj o=>by
  obtain rfl:j=0:=by simp at o;omega
  rw[cK (aO w _)];rfl) q pp
 exact ⟨b,w',p,e,ai (aT _ _ _) f,g.imp id (λk=>k.mono pu)⟩
def CF {base:Nat}(c:UInt8)(h:dJ w base v l)(p:l.length+1<=140737488355328)(q:base<=w.heap.size):
 ∃b w',(Builtin.append_ #[83,83] 83 #[v, .slice (some ⟨w.heap.size,0,none⟩) 1 1]).run prog (w.alloc (.cells #[aB c.toNat] 5))= .ok b w'/\dJ w' base b (l++[c])/\w.grownBy w' v.ownBlock:=by
 obtain ⟨b,w',o,e,f⟩:=Tl (cs:=[c]) (h.alloc (.cells #[aB c.toNat] 5)) w.heap.size 1 (λj g=>by
  obtain rfl:j=0:=by simp at g;omega
  rw[cK (aO w _)];rfl) p pp
 exact ⟨b,w',o,e,ai (aT _ _ _) f⟩
def zw {b:Array Oper}{rest:List Oper}{o:Oper}{a:Act}{Q:Exit->Act->World->Prop}(g:o.guard=none)(s x:Operand)(v u e:Value) w'
 (q:(Builtin.append_ #[83,83] 83 #[v,u]).run prog w= .ok e w')
 (p:o.op= .call {callee:= .builtin .append,args:=#[s,x],argTypes:=#[83,83]}) (z:o.type=83) (y:a.eval s=v) (C:a.eval x=u)
 (h:wpList prog b Q rest (a.put o.dst e) w'):wpList prog b Q (o::rest) a w:=by
 refine BX g λK f=>?_;unfold Oper.wp execOp;simp only[p,z,resolve,invoke,builtin,tL,vy,rU,yW,oC,tO,y,C,q];exact f _ _ h
def GG {base:Nat}(h:dJ w base v l):(convert 83 9 v).run prog w= .ok (.string ⟨l.toArray⟩) w:=by obtain ⟨b,e,g,_,_,_,_,f,_⟩:=h;rw[g];exact nJ f e
def JJ (w:World)(l:Lb)(q:l.length<=maxLen):
 ∃v w',(convert 9 83 (.string ⟨l.toArray⟩)).run prog w= .ok v w'/\dJ w' w.heap.size v l/\w.grownBy w' none:=by
 have h:=run_bytes_of_string (P:=prog) w 9 83 5 ⟨l.toArray⟩ underlying9 underlying83 underlying5;have C:(ByteArray.mk l.toArray).size=l.length:=by simp[ByteArray.size]
 rw[C]at h;have p:=grownCap_ge w l.length 0 5;have y:=grownCap_le_maxLen w l.length 0 5 q;generalize grownCap w l.length 0 5=b at*;have z:(bytesRow ⟨l.toArray⟩ b).size=b:=by unfold bytesRow;simp[ByteArray.size];omega
 have f:∀o:Obj,(w.drew.alloc o).heap[w.heap.size]?=some o:=λo=>aO w.drew o;have g:∀i,i<b->(w.drew.alloc (.cells (bytesRow ⟨l.toArray⟩ b) 5 ((bytesRow ⟨l.toArray⟩ b).size,(bytesRow ⟨l.toArray⟩ b).size+1))).frozen? ⟨w.heap.size,i,none⟩=false:=by intro i e;unfold World.frozen?;simp only[f,Bool.and_eq_false_iff,wV];left;omega
 refine ⟨_,_,h,⟨w.heap.size,b,rfl,bm _,pu,p,y,λi e=>⟨?_,g i pm⟩,λi e=>⟨?_,g i e⟩⟩,aF (aM (ak _ _)) _⟩
 ·unfold World.cell?;simp only[f];unfold bytesRow;rw[Array.getElem?_append_left (by simpa using e)];simp[e]
 unfold World.cell?;simp only[f];simp[z,e]
def Kg(w:World)(base:Nat)(x:Option Nat)(l:Lb)(e:Ending)(w':World):Prop:=∃b,e= .returned b/\dJ w' base b l/\w.grownBy w' x
def zi(w:World)(v e:Value):Prop:=e.ownBlock=v.ownBlock\/∃b,e.ownBlock=some b/\w.heap.size<=b
def o8 {a b}(h:w.grownBy a v.ownBlock)(m:zi w v u)(g:a.grownBy b u.ownBlock):w.grownBy b v.ownBlock:=by
 rcases m with e|⟨k,e,f⟩
 ·rw[e]at g;exact ai h g
 rw[e]at g;exact cJ h g f
def o9 {a b}{f:Value}(h:w.grownBy a v.ownBlock)(m:zi w v u)(k:f.ownBlock=u.ownBlock\/dJ b a.heap.size f l):zi w v f:=by
 rcases k with e|p
 ·unfold zi;rw[e];exact m
 obtain ⟨g,e,o,_⟩:=p.own;exact Or.inr ⟨g,e,bJ h.size o⟩
def To w (base:Nat) v l (n k:Nat)(z:dJ w base v l)(hn:n<18446744073709551616)(hk:k<=8)(hl:l.length+8<=140737488355328)(hb:base<=w.heap.size):
 Calls prog 70 #[v, .int .u64 n, .int .i64 k] w (Kg w base v.ownBlock (l++bo n k)):=by
 go_enter func70,ntmps70;go_wp2;go_loopw [0,9] (λJ h wr=>∃j:Nat,j<=k/\h= .int .i64 j/\Hid (dJ wr base J (l++(bo n k).take j))/\Hid (w.grownBy wr v.ownBlock)/\Hid (zi w v J)) (λ_ h _=>k-(intOf h).toNat)
 case atStart=>exact ⟨0,pm,rfl,Hq (by rw[rW,ev];exact z),Hq (ak _ _),Hq (Or.inl rfl)⟩
 case round=>
  obtain ⟨j,hj,rfl,b,HB,e⟩:=hrel;clear z;have a8:=fw n k;have b0:=HB.out.size;by_cases a9:j<k
  ·have I:=FK n k j a9;have lt:((bo n k).take j).length=j:=(by rw[aJ,a8];omega);obtain ⟨g,a',hv,k1,k2,k3,k4,h5,h6⟩:=id b.out;subst hv;obtain ⟨v',w',C,f,q,y⟩:=Tk (UInt8.ofNat (n/2^(8*(k-1-j)))) b.out (by rw[aK,lt];omega) pm;have U:=Hq (o9 HB.out e.out y);rw[dM,<-I]at f;have o:=Hq (And.intro f (o8 HB.out e.out q));clear I f q y h5 h6 b HB e k1 k2 k3 k4;generalize (l++(bo n k).take j).length=ln at*;have e1:0<=8*((k:Int)-1-j):=pm;have e2:8*((k:Int)-1-j)<=64:=pm;have hc:Value.int .u8 ((n/2^(8*(k-1-j))%256:Nat))= .int .u8 ((UInt8.ofNat (n/2^(8*(k-1-j)))).toNat):=Cq _;go_wp2_with (at_builtin;go_must (refine zw rfl _ _ _ _ v' w' ?c1 rfl rfl rfl rfl ?_))
   case c1=>rw[<-C];congr 2
   clear C;go_wp2;go_roundw
   case rel=>exact ⟨j+1,pm,by go_num,Hq o.out.1,Hq o.out.2,U⟩
   case measure=>simp[intOf];omega
  obtain rfl:j=k:=pm
  have p:dJ wr base u0 (l++bo n j):=by have:=b.out;rwa[cE pm]at this
  have R:=Hq p;clear p b;go_wp2;go_ret;exact ⟨_,rfl,R.out,HB.out⟩
def WO (s:Ln)(i:Nat)(h:i<s.length):oU (s.take (i+1))=oU (s.take i)++bo (s.getD i 0) 4:=by rw[fP h];unfold oU;rw[qK,dh,aW h];simp
def acX (l:Lb)(k:Nat):l++List.replicate k 0++[0]=l++List.replicate (k+1) (0:UInt8):=by rw[dM,List.replicate_succ']
def Vd w (P:Nat) s r (m:Nat)(hP:fK w P s r m)(hs:s.length=8)(d1:fl s)(hm:m<18446744073709551616)(hr:r.length<64):
 Calls prog 213 #[.pointer (some ⟨P,0,none⟩)] w (Grown (S (AY s r m)) w):=by
 obtain ⟨K,hK⟩:=kq ((119-r.length%64)%64);have d7:(r.length+1+K)%64=56:=pm
 have f2:∀k,k<K->(r.length+1+k)%64≠56:=by intro k hk;omega
 have i1:K<=63:=pm
 obtain ⟨q,hq⟩:=kq (8*m%18446744073709551616);obtain ⟨L,hL⟩:=kq (r++[128]++List.replicate K 0++bo q 8);have lL:L.length=r.length+1+K+8:=by rw[hL];simp[fw];omega
 have d3:AY s r m=oU (ed 2 s L).1:=by unfold AY Qy;rw[<-hK,<-hq,<-hL]
 have hD:sg s L (ed 2 s L):=⟨2,pm,rfl⟩;rw[d3];generalize ed 2 s L=X at*;obtain ⟨V,hV⟩:=kq (oU X.1);rw[<-hV];have HV:=Hq hV;have HD:=Hq hD;have HL:=Hq hL;have HQ:=Hq hq;have LL:=Hq lL;have H1:=Hq d7;have H0:Hid ((r.length+1+K)%64=56):=Hq d7;have H2:=Hq f2;have HS:=Hq hs;have f1:=Hq d1;have d8:=hP;obtain ⟨a0,a1,a2,a3,a4,a5,a6,a7,C⟩:=eight hs;rw[C]at d8;obtain ⟨_,c8,_⟩:=d8.cells;have HP:=Hq hP;have ES:=Hq C;obtain ⟨v,x,b8,e0,e3⟩:=JJ w r (by unfold maxLen;omega);obtain ⟨v1,x1,mm,f3,b9⟩:=CF 128 e0 pm e3.size;obtain ⟨g,h',hv,k1,k2,k3,k4,h5,h6⟩:=id e0;subst hv;have f8:w.grownBy x1 none:=cJ e3 b9 k1;have e7:=Hq f3;have e9:=Hq f8;clear hK hq hL lL d3 hD hV d7 f2 hs d1 hP d8 C e0 e3 f3 b9 f8 k1 k2 k3 k4 h5 h6;unfold S;go_enter func213,ntmps213;go_wp2_with (at_builtin;go_must (refine zw rfl _ _ _ _ v1 x1 mm rfl rfl rfl rfl ?_));clear mm b8;go_loopw [3] (λv3 wr=>∃k:Nat,k<=K/\Hid (dJ wr w.heap.size v3 (r++[128]++List.replicate k 0))/\Hid (w.grownBy wr none)) (λv3 _=>200-(match v3 with| .slice _ n _=>n|_=>0))
 case atStart=>exact ⟨0,pm,Hq (by simpa using e7.out),e9⟩
 case round=>
  clear e7 e9;obtain ⟨k,hk,hb,I⟩:=hrel;obtain ⟨g1,h2,hv,k1,k2,k3,k4,h5,h6⟩:=id hb.out;subst hv;have d0:(r++[128]++List.replicate k (0:UInt8)).length=r.length+1+k:=pp
  by_cases p:k<K
  ·obtain ⟨v2,x2,fH,a8,f7⟩:=CF 0 hb.out pm (by have:=I.out.size;omega);rw[acX]at a8;have h7:=H2.out k p;have d5:=Hq a8;have g4:=Hq (cJ I.out f7 k1);obtain ⟨g2,i0,f',_⟩:=id a8;have g':=Hq f';clear f';have f9:(r++[128]++List.replicate (k+1) (0:UInt8)).length=r.length+1+k+1:=pp;have g9:=Hq f9;have f0:=Hq d0;generalize (r++[128]++List.replicate k (0:UInt8)).length=ln at*;obtain rfl:ln=r.length+1+k:=f0.out;obtain ⟨ln,hl⟩:=kq (r.length+1+k);rw[<-hl]at fH h7⊢;have g8:=Hq hl;have n1:(((ln:Int)%64) !=56)=true:=(by rw[dY];omega);have n2:(((ln:Int)%64)==56)=false:=(by rw[dC];omega);clear a8 f7 hb I h5 h6 k1 k2 k3 k4 d0 f9 hl f0;go_wp2_with (at_builtin;go_must (refine zw rfl _ _ _ _ _ x2 fH rfl rfl rfl rfl ?_));clear fH;go_wp2;go_roundw
   case rel=>exact ⟨k+1,pm,d5,g4⟩
   case measure=>have e1:=g9.out;have e2:=g8.out;rw[g'.out];show 200-(r++[128]++List.replicate (k+1) (0:UInt8)).length<200-ln;omega
  obtain rfl:k=K:=pm
  have he:=H1.out;rw[<-d0]at he;have d':=HP.out.kept I.out nofun
  rw[ES.out]at d';obtain ⟨⟨c0,c1,c2,c3,c4,c5,c6,c7⟩,_,c9⟩:=d'.cells;obtain ⟨B,R⟩:=kq wr.heap.size;obtain ⟨y,hy⟩:=kq (wr.alloc (.cells #[.int .u32 a0, .int .u32 a1, .int .u32 a2, .int .u32 a3, .int .u32 a4, .int .u32 a5, .int .u32 a6, .int .u32 a7] 350));have bS:HB y B 350 s:=by rw[hy,R,ES.out];exact aO _ _
  have a8:=hb.out.alloc (.cells #[.int .u32 a0, .int .u32 a1, .int .u32 a2, .int .u32 a3, .int .u32 a4, .int .u32 a5, .int .u32 a6, .int .u32 a7] 350);rw[<-hy]at a8;have d4:w.grownBy y none:=by rw[hy];exact aF I.out _
  have d9:y.cell? ⟨P,9,none⟩=some (.int .u64 m):=by
   have:=HP.out.kept d4 nofun
   rw[ES.out]at this;exact this.cells.2.2
  have i2:g1<B:=by rw[R];exact k2
  have a9:w.heap.size<=B:=by rw[R];exact I.out.size
  have J:=To y w.heap.size _ _ q 8 a8 (by have:=HQ.out;omega) pm (by rw[d0];omega) d4.size;rw[<-HL.out]at J;generalize (r++[128]++List.replicate k (0:UInt8)).length=ln at*;have q1:IntKind.u64.wrap (8*(m:Int))=(q:Int):=by rw[oz];have:=HQ.out;omega
  have n1:(((ln:Int)%64) !=56)=false:=by rw[bne_eq_false_iff_eq];omega
  have n2:(((ln:Int)%64)==56)=true:=by rw[sd];omega
  have HY:=Hq hy;have g0:=Hq R;have g3:=Hq bS;have g6:=Hq d4;clear p he d0 d' hy R bS a8 d4 h5 h6 k2 k3 k4 hb I H1 H2;have A2:Calls prog 70 #[.slice (some ⟨g1,0,none⟩) ln h2, .int .u64 q, .int .i64 8] y (Kg y w.heap.size (some g1) L):=J;clear J;go_upto_region 5with(fail);rw[<-g0.out,<-HY.out];go_wp2_with fail;refine A2.mono ?_;rintro e z ⟨v3,rfl,f4,b'⟩;have b8:=GG f4;have e8:=Hq (ab.kept g3.out b' pp);have e':=Hq (cJ g6.out b' k1);clear f4 b' A2 c0 c1 c2 c3 c4 c5 c6 c7 c9 d9;clear q1 n1 n2;go_wp2_with fail;clear b8;have lL:=LL.out;have r2:=dP;go_loopw [5] (λv5 wr=>∃(f:Ln) (o:Lb),v5= .string ⟨o.toArray⟩/\Hid (HB wr B 350 f)/\Hid (f.length=8)/\Hid (fl f)/\Hid (sg f o X)/\Hid (o.length%64=0)/\o.length<=9223372036854775807/\Hid (w.grownBy wr none)) (λv5 _=>match v5 with| .string b=>b.size|_=>0)
  case atStart=>exact ⟨s,L,rfl,e8,HS,f1,HD,Hq (by have:=H0.out;omega),pm,e'⟩
  case round=>
   clear e8 HS f1 HD e';obtain ⟨f,o,rfl,R,hs,d1,hD,e4,lu,I⟩:=hrel;by_cases p:64<=o.length
   ·obtain ⟨a0,a1,a2,a3,a4,a5,a6,a7,C⟩:=eight hs.out;have a':=R.out;rw[C]at a';obtain ⟨c0,c1,c2,c3,c4,c5,c6,c7⟩:=a'.eight;have J:∀W:World,Calls prog 265 #[fV f,S (o.take 64)] W (Grown (fV (lH f (o.take 64))) W):=λW=>Mm W f (o.take 64) hs.out d1.out (by rw[aJ];omega);have h4:=Hq (hD.out.more p);have lT:=JE f (o.take 64) hs.out;have sT:=Hq (JF f (o.take 64));generalize lH f (o.take 64)=T at*;obtain ⟨b0,b1,b2,b3,b4,b5,b6,b7,eT⟩:=eight lT;have hA:fV f= .agg #[.int .u32 a0, .int .u32 a1, .int .u32 a2, .int .u32 a3, .int .u32 a4, .int .u32 a5, .int .u32 a6, .int .u32 a7]:=(by rw[C];rfl);have hT:fV T= .agg #[.int .u32 b0, .int .u32 b1, .int .u32 b2, .int .u32 b3, .int .u32 b4, .int .u32 b5, .int .u32 b6, .int .u32 b7]:=(by rw[eT];rfl);rw[hA,hT]at J;unfold S at J;have ET:=Hq eT;have LT:=Hq lT;have ES:=Hq C;clear hA hT a' C eT lT;have q1:(64:Int)<=(o.length:Int):=pm;have h8:o.isEmpty=false:=by rw[ou];intro h;rw[h]at p;simp at p
    have i4:(!o.isEmpty)=true:=(by rw[h8];rfl);have i5:o≠[]:=by intro h;rw[h]at p;simp at p
    have i3:List.take (o.length-64) (List.drop 64 o)=o.drop 64:=cE (by rw[aR];omega);go_wp2_with fail;go_region_with (first
     |(go_at_call 265;(with_reducible refine (J _).mono ?_);rintro e x1 ⟨rfl,b9⟩;have U:=ab.kept (ab.drew R.out) b9 nofun;have k0:=ab.frozen U 0;have k1:=ab.frozen U 1;have k2:=ab.frozen U 2;have k3:=ab.frozen U 3;have k4:=ab.frozen U 4;have k5:=ab.frozen U 5;have k6:=ab.frozen U 6;have k7:=ab.frozen U 7;have hq:=U;rw[ES.out]at hq;obtain ⟨n0,n1,n2,n3,n4,n5,n6,n7⟩:=HB.eight hq;clear hq))
    all_goals
     have h3:HB ((((((((x1.setCell ⟨B,0,none⟩ (.int .u32 b0)).setCell ⟨B,1,none⟩ (.int .u32 b1)).setCell ⟨B,2,none⟩ (.int .u32 b2)).setCell ⟨B,3,none⟩ (.int .u32 b3)).setCell ⟨B,4,none⟩ (.int .u32 b4)).setCell ⟨B,5,none⟩ (.int .u32 b5)).setCell ⟨B,6,none⟩ (.int .u32 b6)).setCell ⟨B,7,none⟩ (.int .u32 b7)) B 350 T:=by
      have hq:HB x1 B 350 [a0,a1,a2,a3,a4,a5,a6,a7]:=by have:=U;rw[ES.out]at this;exact this
      rw[ET.out];exact (((((((hq.set 0 b0).set 1 b1).set 2 b2).set 3 b3).set 4 b4).set 5 b5).set 6 b6).set 7 b7
     have b':w.grownBy ((((((((x1.setCell ⟨B,0,none⟩ (.int .u32 b0)).setCell ⟨B,1,none⟩ (.int .u32 b1)).setCell ⟨B,2,none⟩ (.int .u32 b2)).setCell ⟨B,3,none⟩ (.int .u32 b3)).setCell ⟨B,4,none⟩ (.int .u32 b4)).setCell ⟨B,5,none⟩ (.int .u32 b5)).setCell ⟨B,6,none⟩ (.int .u32 b6)).setCell ⟨B,7,none⟩ (.int .u32 b7)) none:=
      cj (cj (cj (cj (cj (cj (cj (cj (ai (aM I.out) b9) _ a9 _) _ a9 _) _ a9 _) _ a9 _) _ a9 _) _ a9 _) _ a9 _) _ a9 _
     have H3:=Hq h3;have g5:=Hq b';clear h3 b' n0 n1 n2 n3 n4 n5 n6 n7 k0 k1 k2 k3 k4 k5 k6 k7 U b9 I R hD;go_wp2;go_roundw
     case rel=>exact ⟨T,o.drop 64,rfl,H3,LT,sT,h4,Hq (by rw[aR];have:=e4.out;omega),by rw[aR];omega,g5⟩
     case measure=>simp[ByteArray.size];omega
   obtain rfl:o=[]:=pG (by have:=e4.out;omega);have hX:=hD.out.done p;have hV:V=oU f:=(by rw[HV.out,hX]);have h0:=Hq hV;obtain ⟨a0,a1,a2,a3,a4,a5,a6,a7,C⟩:=eight hs.out;have a':=R.out;rw[C]at a';obtain ⟨c0,c1,c2,c3,c4,c5,c6,c7⟩:=a'.eight;have ix:∀(W:World) (i:Nat),i<8->(Instr.index 350 (.agg #[.int .u32 a0, .int .u32 a1, .int .u32 a2, .int .u32 a3, .int .u32 a4, .int .u32 a5, .int .u32 a6, .int .u32 a7]) (.int .i64 i)).run prog W= .ok (.int .u32 (f.getD i 0:Nat)) W:=λW i hi=>
    Je W 350 33 8 _ i _ underlying350 Af qr hi (by have:(#[Value.int .u32 a0, .int .u32 a1, .int .u32 a2, .int .u32 a3, .int .u32 a4, .int .u32 a5, .int .u32 a6, .int .u32 a7]:Array Value)=(f.map eZ).toArray:=(by rw[C];rfl);rw[this,EO,fQ,dh,aW (by rw[hs.out];exact hi)];rfl)
   have IX:=Hq ix;have f6:=I;have d6:=Hq (mO wr wr.heap.size);clear hX hV hD a' C ix R e4 p;go_wp2_with fail;clear c0 c1 c2 c3 c4 c5 c6 c7;obtain ⟨x0,d2⟩:=kq wr;rw[<-d2]at f6 d6;have h1:=Hq d2;go_loopw [6,44] (λv6 e6 wr=>∃i:Nat,i<=8/\e6= .int .i64 i/\Hid (dq wr x0.heap.size v6 (oU (f.take i)))/\Hid (Below x0.heap.size x0 wr)) (λ_ e6 _=>8-(intOf e6).toNat)
   case atStart=>exact ⟨0,pm,rfl,by rw[<-d2];exact d6,Hq (by rw[<-d2];exact qS _ _)⟩
   case round=>
    clear d6 d2 h1 I;obtain ⟨i,hi,rfl,hb,c'⟩:=hrel;by_cases p:i<8
    ·have ix:=λW=>IX.out W i p;have ls:=fS d1.out i;have e5:=WO f i (by rw[hs.out];exact p);have J:=λ(W:World) (hW:dq W x0.heap.size u6 (oU (f.take i))) (hz:x0.heap.size<=W.heap.size)=>pC W x0.heap.size u6 (oU (f.take i)) (f.getD i 0) 4 hW pm pm pm (by rw[My,aJ];omega) hz;rw[show(4:Int).toNat=4from rfl,<-e5]at J;have h9:=Hq e5;clear e5;generalize f.getD i 0=n at*;have wn:IntKind.u64.wrap (n:Int)=(n:Int):=dE _ pm;have A2:=J wr hb.out c'.out.size;clear J;go_wp2_with fail;refine A2.mono ?_;rintro e x2 ⟨v',rfl,a8,f5⟩;have d5:=Hq a8;have g7:=Hq (c'.out.trans f5);clear A2 hb c' a8 f5 ix;go_wp2;go_roundw
     case rel=>exact ⟨i+1,pm,by go_num,d5,g7⟩
     case measure=>simp[intOf];omega
    obtain rfl:i=8:=pm;have b8:=jL hb.out;rw[cE (by rw[hs.out];omega)]at b8;have d3:=Hq (ai f6.out (iU c'.out));clear hb c';rw[<-h0.out]at b8;go_wp2;go_ret;exact ⟨rfl,d3.out⟩
def Kq:∀(f:Nat) (s:Ln) (r:Lb),fl s->fl (ed f s r).1
 |0,s,r,h=>h
 |f+1,s,r,h=>by
  rw[ed];split
  ·exact Kq f _ _ (JF _ _)
  exact h
def Qz t:fl (jz t).1:=Kq _ _ _ Jn
def qV(w:World)(P:Nat)(t:Lb):Prop:=fK w P (jz t).1 (jz t).2 (t.length%18446744073709551616)
def qV.kept {t}{x:Option Nat}(h:qV w P t)(g:w.grownBy w' x)(b:some P≠x):qV w' P t:=fK.kept h g b
def RN(w:World)(e:Ending)(w':World):Prop:=∃P,e= .returned (dy P 0)/\qV w' P []/\w.grownBy w' none/\w.heap.size<=P
def Yd w:Calls prog 211 #[] w (RN w):=
 (VA w).mono λe w' ⟨P,b,f,g,h⟩=>⟨P,b,f,g,h⟩
def RQ(P:Nat)(t:Lb)(w:World)(e:Ending)(w':World):Prop:=e= .returned (.tuple #[])/\qV w' P t/\w.grownBy w' (some P)
def Yf w (P:Nat)(t u:Lb)(o:qV w P t)(q:64+u.length<=9223372036854775807):
 Calls prog 212 #[dy P 0,S u] w (RQ P (t++u) w):=by
 have p:=Jr t;refine (Wt w P (jz t).1 (jz t).2 u (t.length%18446744073709551616) o (Jq t) (Qz t) (dQ _ pm) pm).mono ?_;rintro e w' ⟨f,g,h⟩;refine ⟨f,?_,h⟩;unfold qV;have b:jz (t++u)=ed ((jz t).2.length+u.length) (jz t).1 ((jz t).2++u):=by rw[aap];exact Cj _ _ _ _ (by rw[aK];omega) (by rw[aK];omega)
 rw[b,show(t++u).length%18446744073709551616=(t.length%18446744073709551616+u.length)%18446744073709551616from by rw[aK,Nat.mod_add_mod]];exact g
def Ye w (P:Nat) t (b:qV w P t):Calls prog 213 #[dy P 0] w (Grown (S (wI t)) w):=
 Vd w P (jz t).1 (jz t).2 (t.length%18446744073709551616) b (Jq t) (Qz t) (dQ _ pm) (Jr t)
def aar w (t:Lb)(R:64+t.length<=9223372036854775807):Calls prog 162 #[S t] w (Grown (S (wI t)) w):=by have f:=λ(W:World) (P:Nat) (b:qV W P [])=>Yf W P [] t b R;have g:=λ(W:World) (P:Nat) (b:qV W P t)=>Ye W P t b;rw[kP]at f;generalize wI t=V at*;unfold S at*;go_enter func162,ntmps162;go_wp2_with fail;refine (Yd _).mono ?_;rintro e x1 ⟨P,rfl,b,p,I⟩;have h:=f x1 P b;have z:=Hq p;clear b f p;go_wp2_with fail;refine h.mono ?_;rintro e x2 ⟨rfl,o,q⟩;have y:=g x2 P o;have C:=Hq (cJ z.out q I);clear o g h q;go_wp2_with fail;refine ax y λx3 J=>?_;go_wp2;go_ret;exact ⟨rfl,ai C.out J⟩
end
end Go.Proofs.YtmomfbkpniblgaaGreatDoor
