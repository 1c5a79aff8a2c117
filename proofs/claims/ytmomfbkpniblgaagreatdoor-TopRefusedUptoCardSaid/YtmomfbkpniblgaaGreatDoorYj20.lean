/- A part of this claim's proof. -/
import Derived.Test.YtmomfbkpniblgaaGreatDoorYj15
import Derived.Test.YtmomfbkpniblgaaGreatDoorYj13
set_option linter.all false
set_option maxHeartbeats 2000000
namespace Go.Proofs.YtmomfbkpniblgaaGreatDoor
open Go.Proofs.Tryz
section
open Go.RowKit
def cx(a:Nat)(s:Lb):Lb:=if a=1then fx [] s 32 else wI s
def oX (a:Nat) s:(cx a s).length=32:=by
 unfold cx;split
 ·exact uc _ _ _ pm
 exact aan s
def bx(a:Nat)(key:Lb):Lb:=if 64<key.length then cx a key else key
def DE (a:Nat) key:(bx a key).length<=64:=by
 unfold bx;split
 ·rw[oX];omega
 omega
def fI(a:Nat)(key s:Lb):Lb:=cx a (cL (bx a key) 92++cx a (cL (bx a key) 54++s))
def wm (a:Nat) key s:(fI a key s).length=32:=oX _ _
def Vb w (s:Lb)(a:s.length<=9223372036854775000):Calls prog 160 #[S s] w (Grown (S (fx [] s 32)) w):=by have b:∀W:World,Calls prog 161 #[S [],S s, .int .i64 32] W (Grown (.tuple #[S (fx [] s 32), .int .i64 0]) W):=λW=>Lp W [] s 32 pu pm pm a;generalize fx [] s 32=V at*;unfold S at*;clear a;go_enter func160,ntmps160;go_wp2_with fail;refine ax (b _) λx1 c=>?_;go_wp2;go_ret;exact ⟨rfl,c⟩
def Yb (s:Lb):cx 1 s=fx [] s 32:=by unfold cx;rw[av rfl]
def Yc (s:Lb):cx 2 s=wI s:=by unfold cx;rw[au ut]
def yf w (s:Lb)(a:s.length<=9223372036854775000):Calls prog 160 #[S s] w (Grown (S (cx 1 s)) w):=by rw[Yb];exact Vb w s a
def yg w (s:Lb)(a:s.length<=9223372036854775000):Calls prog 162 #[S s] w (Grown (S (cx 2 s)) w):=by rw[Yc];exact aar w s pm
def IA (W:World):(binOp .eql 59 (.func (.func 160) #[] #[]) Value.nilFunc).run prog W= .ok (.bool false) W:=qr
def IB (W:World):(binOp .eql 59 (.func (.func 162) #[] #[]) Value.nilFunc).run prog W= .ok (.bool false) W:=qr
def Gk w:Calls prog 105 #[.int .i64 1] w λe a=>e= .returned (.func (.func 160) #[] #[])/\w=a:=by go_enter func105,ntmps105;go_wp2;go_ret;exact ⟨rfl,rfl⟩
def Gl w:Calls prog 105 #[.int .i64 2] w λe a=>e= .returned (.func (.func 162) #[] #[])/\w=a:=by go_enter func105,ntmps105;go_wp2;go_ret;exact ⟨rfl,rfl⟩
def Vm w (key s:Lb)(n:¬64<key.length)(m:key.length<=9223372036854775000)(o:s.length<=9223372036854774000):
 Calls prog 60 #[.int .i64 1,S key,S s] w (Grown (.tuple #[S (fI 1 key s), .int .i64 0]) w):=by
 have x:¬((64:Int)<(key.length:Int)):=pm
 have i:bx 1 key=key:=by unfold bx;rw[au n]
 have c:=DE 1 key;have q:=uH (bx 1 key) 92;have r:=uH (bx 1 key) 54;have p:=oX 1 (cL (bx 1 key) 54++s);have a:∀W:World,Calls prog 106 #[S (bx 1 key), .int .u8 92] W (Grown (S (cL (bx 1 key) 92)) W):=λW=>ug W (bx 1 key) 92 c;have b:∀W:World,Calls prog 106 #[S (bx 1 key), .int .u8 54] W (Grown (S (cL (bx 1 key) 54)) W):=λW=>ug W (bx 1 key) 54 c;have H1:∀W:World,Calls prog 160 #[S (cL (bx 1 key) 54++s)] W (Grown (S (cx 1 (cL (bx 1 key) 54++s))) W):=λW=>yf W _ (by rw[aK];omega);have d:∀W:World,Calls prog 160 #[S (cL (bx 1 key) 92++cx 1 (cL (bx 1 key) 54++s))] W (Grown (S (fI 1 key s)) W):=λW=>yf W _ (by rw[aK];omega);have I:=eD;have t:(cL (bx 1 key) 54).length+s.length<=9223372036854775807:=pm
 have u:(cL (bx 1 key) 92).length+(cx 1 (cL (bx 1 key) 54++s)).length<=9223372036854775807:=pm
 rw[i]at a b H1 d t u;generalize fI 1 key s=V at*;generalize cx 1 (cL (key) 54++s)=v at*;generalize cL (key) 54=z at*;generalize cL (key) 92=C at*;unfold S at*;clear i c q r p m o;have y:=IA;go_enter func60,ntmps60;go_wp2_with fail;refine (Gk _).mono ?_;rintro e x0 ⟨rfl,rfl⟩;have f:w.grownBy w none:=ak _ _;go_wp2_with fail;refine ax (a _) λx2 g=>?_;go_wp2_with fail;refine ax (b _) λx3 h=>?_;have j:=Hq (ai (ai f g) h);clear f g h a b;go_wp2_with fail;refine ax (H1 _) λx4 k=>?_;go_wp2_with fail;refine ax (d _) λJ l=>?_;go_wp2;go_ret2;exact ⟨rfl,ai (ai j.out k) l⟩
def Vl w (key s:Lb)(p:64<key.length)(k:key.length<=9223372036854775000)(q:s.length<=9223372036854774000):
 Calls prog 60 #[.int .i64 1,S key,S s] w (Grown (.tuple #[S (fI 1 key s), .int .i64 0]) w):=by
 have z:(64:Int)<(key.length:Int):=pm
 have l:∀W:World,Calls prog 160 #[S key] W (Grown (S (cx 1 key)) W):=λW=>yf W key k;have j:bx 1 key=cx 1 key:=by unfold bx;rw[av p]
 have d:=DE 1 key;have t:=uH (bx 1 key) 92;have u:=uH (bx 1 key) 54;have r:=oX 1 (cL (bx 1 key) 54++s);have a:∀W:World,Calls prog 106 #[S (bx 1 key), .int .u8 92] W (Grown (S (cL (bx 1 key) 92)) W):=λW=>ug W (bx 1 key) 92 d;have b:∀W:World,Calls prog 106 #[S (bx 1 key), .int .u8 54] W (Grown (S (cL (bx 1 key) 54)) W):=λW=>ug W (bx 1 key) 54 d;have H1:∀W:World,Calls prog 160 #[S (cL (bx 1 key) 54++s)] W (Grown (S (cx 1 (cL (bx 1 key) 54++s))) W):=λW=>yf W _ (by rw[aK];omega);have f:∀W:World,Calls prog 160 #[S (cL (bx 1 key) 92++cx 1 (cL (bx 1 key) 54++s))] W (Grown (S (fI 1 key s)) W):=λW=>yf W _ (by rw[aK];omega);have P:=eD;have v:(cL (bx 1 key) 54).length+s.length<=9223372036854775807:=pm
 have x:(cL (bx 1 key) 92).length+(cx 1 (cL (bx 1 key) 54++s)).length<=9223372036854775807:=pm
 rw[j]at a b H1 f v x;generalize fI 1 key s=V at*;generalize cx 1 key=c at*;generalize cx 1 (cL (c) 54++s)=y at*;generalize cL (c) 54=I at*;generalize cL (c) 92=J at*;unfold S at*;clear j d t u r k q;have C:=IA;go_enter func60,ntmps60;go_wp2_with fail;refine (Gk _).mono ?_;rintro e x0 ⟨rfl,rfl⟩;go_wp2_with fail;refine ax (l _) λx1 g=>?_;go_wp2_with fail;refine ax (a _) λx2 h=>?_;go_wp2_with fail;refine ax (b _) λx3 i=>?_;have m:=Hq (ai (ai g h) i);clear g h i a b;go_wp2_with fail;refine ax (H1 _) λx4 n=>?_;go_wp2_with fail;refine ax (f _) λR o=>?_;go_wp2;go_ret2;exact ⟨rfl,ai (ai m.out n) o⟩
def Vo w (key s:Lb)(n:¬64<key.length)(m:key.length<=9223372036854775000)(o:s.length<=9223372036854774000):
 Calls prog 60 #[.int .i64 2,S key,S s] w (Grown (.tuple #[S (fI 2 key s), .int .i64 0]) w):=by
 have x:¬((64:Int)<(key.length:Int)):=pm
 have i:bx 2 key=key:=by unfold bx;rw[au n]
 have c:=DE 2 key;have q:=uH (bx 2 key) 92;have r:=uH (bx 2 key) 54;have p:=oX 2 (cL (bx 2 key) 54++s);have a:∀W:World,Calls prog 106 #[S (bx 2 key), .int .u8 92] W (Grown (S (cL (bx 2 key) 92)) W):=λW=>ug W (bx 2 key) 92 c;have b:∀W:World,Calls prog 106 #[S (bx 2 key), .int .u8 54] W (Grown (S (cL (bx 2 key) 54)) W):=λW=>ug W (bx 2 key) 54 c;have H1:∀W:World,Calls prog 162 #[S (cL (bx 2 key) 54++s)] W (Grown (S (cx 2 (cL (bx 2 key) 54++s))) W):=λW=>yg W _ (by rw[aK];omega);have d:∀W:World,Calls prog 162 #[S (cL (bx 2 key) 92++cx 2 (cL (bx 2 key) 54++s))] W (Grown (S (fI 2 key s)) W):=λW=>yg W _ (by rw[aK];omega);have I:=eD;have t:(cL (bx 2 key) 54).length+s.length<=9223372036854775807:=pm
 have u:(cL (bx 2 key) 92).length+(cx 2 (cL (bx 2 key) 54++s)).length<=9223372036854775807:=pm
 rw[i]at a b H1 d t u;generalize fI 2 key s=V at*;generalize cx 2 (cL (key) 54++s)=v at*;generalize cL (key) 54=z at*;generalize cL (key) 92=C at*;unfold S at*;clear i c q r p m o;have y:=IB;go_enter func60,ntmps60;go_wp2_with fail;refine (Gl _).mono ?_;rintro e x0 ⟨rfl,rfl⟩;have f:w.grownBy w none:=ak _ _;go_wp2_with fail;refine ax (a _) λx2 g=>?_;go_wp2_with fail;refine ax (b _) λx3 h=>?_;have j:=Hq (ai (ai f g) h);clear f g h a b;go_wp2_with fail;refine ax (H1 _) λx4 k=>?_;go_wp2_with fail;refine ax (d _) λJ l=>?_;go_wp2;go_ret2;exact ⟨rfl,ai (ai j.out k) l⟩
def Vn w (key s:Lb)(p:64<key.length)(o:key.length<=9223372036854775000)(q:s.length<=9223372036854774000):
 Calls prog 60 #[.int .i64 2,S key,S s] w (Grown (.tuple #[S (fI 2 key s), .int .i64 0]) w):=by
 have z:(64:Int)<(key.length:Int):=pm
 have k:∀W:World,Calls prog 162 #[S key] W (Grown (S (cx 2 key)) W):=λW=>yg W key pm;have j:bx 2 key=cx 2 key:=by unfold bx;rw[av p]
 have d:=DE 2 key;have t:=uH (bx 2 key) 92;have u:=uH (bx 2 key) 54;have r:=oX 2 (cL (bx 2 key) 54++s);have a:∀W:World,Calls prog 106 #[S (bx 2 key), .int .u8 92] W (Grown (S (cL (bx 2 key) 92)) W):=λW=>ug W (bx 2 key) 92 d;have b:∀W:World,Calls prog 106 #[S (bx 2 key), .int .u8 54] W (Grown (S (cL (bx 2 key) 54)) W):=λW=>ug W (bx 2 key) 54 d;have H1:∀W:World,Calls prog 162 #[S (cL (bx 2 key) 54++s)] W (Grown (S (cx 2 (cL (bx 2 key) 54++s))) W):=λW=>yg W _ (by rw[aK];omega);have f:∀W:World,Calls prog 162 #[S (cL (bx 2 key) 92++cx 2 (cL (bx 2 key) 54++s))] W (Grown (S (fI 2 key s)) W):=λW=>yg W _ (by rw[aK];omega);have P:=eD;have v:(cL (bx 2 key) 54).length+s.length<=9223372036854775807:=pm
 have x:(cL (bx 2 key) 92).length+(cx 2 (cL (bx 2 key) 54++s)).length<=9223372036854775807:=pm
 rw[j]at a b H1 f v x;generalize fI 2 key s=V at*;generalize cx 2 key=c at*;generalize cx 2 (cL (c) 54++s)=y at*;generalize cL (c) 54=I at*;generalize cL (c) 92=J at*;unfold S at*;clear j d t u r o q;have C:=IB;go_enter func60,ntmps60;go_wp2_with fail;refine (Gl _).mono ?_;rintro e x0 ⟨rfl,rfl⟩;go_wp2_with fail;refine ax (k _) λx1 g=>?_;go_wp2_with fail;refine ax (a _) λx2 h=>?_;go_wp2_with fail;refine ax (b _) λx3 i=>?_;have l:=Hq (ai (ai g h) i);clear g h i a b;go_wp2_with fail;refine ax (H1 _) λx4 m=>?_;go_wp2_with fail;refine ax (f _) λR n=>?_;go_wp2;go_ret2;exact ⟨rfl,ai (ai l.out m) n⟩
def LY w (a:Nat)(e:a=1\/a=2)(key s:Lb)(b:key.length<=9223372036854775000)(d:s.length<=9223372036854774000):
 Calls prog 60 #[.int .i64 a,S key,S s] w (Grown (.tuple #[S (fI a key s), .int .i64 0]) w):=by
 by_cases c:64<key.length
 ·rcases e with rfl|rfl
  ·exact Vl w key s c b d
  exact Vn w key s c b d
 rcases e with rfl|rfl
 ·exact Vm w key s c b d
 exact Vo w key s c b d
def jP(a:Nat)(p:Lb):Nat->Lb
 |0=>[]
 |i+1=>fI a p (jP a p i++[UInt8.ofNat (i+1)])
def kH(a:Nat)(p:Lb)(n:Nat):List Lb:=(List.range n).map λi=>jP a p (i+1)
def I5 (a:Nat) p (n:Nat):(kH a p n).length=n:=by simp[kH]
def I6 (a:Nat) p (n:Nat):kH a p (n+1)=kH a p n++[jP a p (n+1)]:=by unfold kH;rw[BS,jW];rfl
def Zs (a:Nat) p (i:Nat):(jP a p i).length<=32:=by
 cases i with
 |zero=>simp[jP]
 |succ i=>rw[jP,wm];omega
def pR(b:List Lb)(w:World)(e:Ending)(a:World):Prop:=∃v,e= .returned (.tuple #[v, .int .i64 0])/\np a w.heap.size v b/\w.grownBy a none
def uh (w:World)(n:Nat)(c:UInt8)(a:c.toNat=n):(convert 83 9 (.slice (some ⟨w.heap.size,0,none⟩) 1 1)).run prog (w.alloc (.cells #[.int .u8 n] 5))= .ok (.string ⟨#[c]⟩) (w.alloc (.cells #[.int .u8 n] 5)):=by
 subst a;have h:gM (w.alloc (.cells #[.int .u8 c.toNat] 5)) w.heap.size [c]:=λi b=>by
  have d:i=0:=by simp at b;omega
  subst d;exact ⟨by rw[cK (aO w _)];rfl,nV (aO w _) 0⟩
 exact nJ h 1
def uf w (a:Nat)(q:a=1\/a=2)(key s:Lb)(n:Nat)(n1:1<=n)(n3:n<=3)(u:key.length<=9223372036854775000)(hs:s.length<=9223372036854774000):
 Calls prog 37 #[.int .i64 a,S key,S s, .int .i64 n] w (pR (kH a (fI a key s) n) w):=by
 have o:=λW:World=>LY W a q key s u hs;have lp:=wm a key s;generalize fI a key s=p at*;have J:=λ(W:World) (t:Lb) (ht:t.length<=100)=>LY W a q p t pm pm;have k1:¬((n:Int)<1):=pm
 have k2:¬((3:Int)<(n:Int)):=pm
 have r1:=eD;have c0:a<=2:=pm
 have a8:=Hq J;have a9:=Hq (Zs a p);unfold S at o⊢;clear q u hs lp J;go_enter func37,ntmps37;go_wp2_with fail;refine ax (o _) λx d=>?_;have P:=Hq d;have U:Hid (np x w.heap.size (.slice none 0 0) []):=Hq (Fb _ _ _ _);clear d o;go_wp2_with fail;go_loopw [12,13,33] (λb4 b5 I wr=>∃i:Nat,i<=n/\I= .int .i64 i/\Hid (b5= .string ⟨(jP a p i).toArray⟩)/\Hid (np wr w.heap.size b4 (kH a p i))/\Hid (w.grownBy wr none)) (λ_ _ I _=>n-(intOf I).toNat)
 case atStart=>exact ⟨0,pm,rfl,Hq rfl,U,P⟩
 case round=>
  clear U P;obtain ⟨i,hi,rfl,a2,C,d⟩:=hrel;obtain ⟨l,m⟩:=kq (jP a p i);have a1:=a2.out;rw[<-m]at a1;subst a1;clear a2;by_cases b':i<n
  ·obtain ⟨k,u,a4⟩:∃k:Nat,(i:Int)+1=(k:Int)/\k=i+1:=⟨i+1,pm,rfl⟩;have hc:(UInt8.ofNat k).toNat=k:=(by rw[uZ];omega);have b9:=uh wr k (UInt8.ofNat k) hc;have ll:l.length<=32:=by rw[m];exact a9.out i
   have a7:jP a p (i+1)=fI a p (l++[UInt8.ofNat k]):=(by rw[jP,m,a4]);have h:∀W:World,Calls prog 60 #[.int .i64 a,S p,S (l++[UInt8.ofNat k])] W (Grown (.tuple #[S (jP a p (i+1)), .int .i64 0]) W):=λW=>by rw[a7];exact a8.out W (l++[UInt8.ofNat k]) (by rw[aK];simp;omega)
   clear a7;have y:=I6 a p i;obtain ⟨nx,z⟩:=kq (jP a p (i+1));rw[<-z]at h y;have b1:=Hq y;have b0:=Hq z;have lo:=I5 a p i;have q1:(k:Int)%256=(k:Int):=pm;have q2:IntKind.u8.wrap (k:Int)=(k:Int):=(by rw[IntKind.wrap_u8];omega);have q3:l.length+1<=9223372036854775807:=pm;have hd:decide ((i:Int)<(n:Int))=true:=pp;generalize UInt8.ofNat k=c at*;have a':=Hq lo;have b2:=d.out.size;clear m a4 y z hc lo;unfold S at h;go_wp2_with fail;refine ax (h _) λx2 f=>?_;replace f:=ai (aT wr _ none) f;have r:=ai d.out f;have a6:x2.ownsRow w.heap.size 9 1 u12 (kH a p i).length ((kH a p i).map S):=C.out.kept f (by cases u12.ownBlock<;>simp);have b3:w.heap.size<=x2.heap.size:=r.size;have R:=Hq r;have a0:=Hq a6;clear C d f r a6 h b2;go_wp2_with (at_builtin;go_must (refine KD rfl _ _ 22 rfl w.heap.size 9 (.string ⟨#[]⟩) 16 underlying22 YT rfl _ _ _ rfl a0.out (S nx) rfl rfl pm (by rw[a'.out];omega) b3 ?_));intro v' w' a5 a3;have HO:=Hq a5;have j:=Hq a3;clear a5 a3;go_wp2;go_roundw
   case rel=>
    refine ⟨i+1,pm,by go_num,Hq (by rw[b0.out]),Hq ?_,Hq ?_⟩
    ·unfold np;rw[b1.out,aK,jW];exact HO.out
    rcases hown:u12.ownBlock with _|b
    ·rw[hown]at j;exact ai R.out j.out
    rw[hown]at j;exact cJ R.out j.out (by
     rcases a0.out.2with⟨e,_⟩|⟨g,b6,b7,hv,b8,_⟩
     ·rw[e]at hown;simp[Value.ownBlock]at hown
     rw[hv]at hown;have:g=b:=by simpa[Value.ownBlock]using hown
     omega)
   case measure=>simp[intOf];omega
  obtain rfl:i=n:=pm
  have hd:decide ((i:Int)<(i:Int))=false:=pu
  go_wp2_with fail;refine bodyPost_ret (v:= .tuple #[u12, .int .i64 0]) (by simp[results,results37,go_sem]) rfl ?_;exact ⟨_,rfl,C.out,d.out⟩
def xO w (key s:Lb)(n:Nat)(b:key.length<=32)(d:1<=n)(e:n<=32)(c:s.length<=9223372036854775000):
 Calls prog 229 #[S key,S s, .int .i64 n] w (Grown (S (fx key s n)) w):=by
 have A:=λW:World=>Lp W key s n b d e c;generalize fx key s n=V at*;unfold S at*;go_enter func229,ntmps229;go_wp2_with fail;refine ax (A _) λx a=>?_;go_wp2;go_ret;exact ⟨rfl,a⟩
def oR(a b:Nat):Lb:=bo (b/120) 8++bo a 4
def Ui w (bt:Lb)(f a:Nat)(s:bt.length=32)(y:f<4294967296)(z:a<=1099511627776):
 Calls prog 226 #[S bt, .int .u32 f, .int .i64 a] w (Grown (.tuple #[S (fx bt (oR f a) 16), .int .i64 0]) w):=by
 obtain ⟨m,hm⟩:=kq (a/120);have g:∀W:World,Calls prog 70 #[.slice none 0 0, .int .u64 m, .int .i64 8] W (mH W W.heap.size (bo m 8)):=λW=>by have:=pC W W.heap.size (.slice none 0 0) [] m 8 (mO _ _) pm pm pm pu (bm _);exact this
 have h:∀(W:World) (b:Nat) (x:Value),dq W b x (bo m 8)->b<=W.heap.size->Calls prog 70 #[x, .int .u64 f, .int .i64 4] W (mH W b (oR f a)):=λW b x t u=>by have:=pC W b x (bo m 8) f 4 t pm pm pm (by rw[fw];omega) u;unfold oR;rw[<-hm];exact this
 have lt:(oR f a).length=12:=by unfold oR;rw[aK,fw,fw]
 have l:∀W:World,Calls prog 229 #[S bt,S (oR f a), .int .i64 16] W (Grown (S (fx bt (oR f a) 16)) W):=λW=>xO W bt (oR f a) 16 pm pm pm pm;generalize oR f a=T at*;generalize fx bt T 16=V at*;generalize bo m 8=L at*;have C:((bt.length:Int) !=32)=false:=by rw[s];rfl
 have I:decide ((a:Int)<0)=false:=pu
 have J:decide ((1099511627776:Int)<(a:Int))=false:=pp
 have P:Int.tdiv (a:Int) 120=(m:Int):=by rw[Int.tdiv_eq_ediv_of_nonneg pm];omega
 have q7:(a:Int)/120=(m:Int):=pm
 have R:IntKind.u64.wrap (f:Int)=(f:Int):=dE _ pm;have U:IntKind.u64.wrap (m:Int)=(m:Int):=dE _ pm;unfold S at*;clear hm lt;go_enter func226,ntmps226;go_wp2_with fail;refine (g _).mono ?_;rintro e x ⟨v,rfl,i,c⟩;have d:=h x w.heap.size v i c.size;have n:=Hq (iU (r:=none) c);clear i g h;go_wp2_with fail;refine d.mono ?_;rintro e x2 ⟨v2,rfl,j,k⟩;have p:=jL j;unfold S at p;have o:=Hq (iU (r:=none) (c.trans k));clear j c k d n;go_wp2_with fail;refine ax (l _) λx3 q=>?_;go_wp2;go_ret2;exact ⟨rfl,ai o.out q⟩
def uB:Lb:=[109,97,114,107,45,45,45,45]
def sQ(a b:Lb):Lb:=fx (fx [] (uB++a) 32) b 16
def Dh ag text:(sQ ag text).length=16:=uc _ _ _ pm
def tg(b a:Lb):Lb:=a++sQ b a
def Ge w (a b:Lb)(e:a.length=32)(i:b.length<=140737488355000):
 Calls prog 228 #[S a,S b] w (Grown (S (sQ a b)) w):=by
 have c:∀W:World,Calls prog 229 #[S [],S (uB++a), .int .i64 32] W (Grown (S (fx [] (uB++a) 32)) W):=λW=>xO W [] (uB++a) 32 pu pm pm (by rw[aK,e];decide);have l:=uc [] (uB++a) 32 pm;have f:∀W:World,Calls prog 229 #[S (fx [] (uB++a) 32),S b, .int .i64 16] W (Grown (S (sQ a b)) W):=λW=>xO W _ b 16 pm pm pm pm;generalize sQ a b=V at*;generalize fx [] (uB++a) 32=K at*;have m:=eD;have j:[109,97,114,107,45,45,45,(45:UInt8)].length+a.length<=9223372036854775807:=by rw[e];decide
 have k:8+a.length<=9223372036854775807:=pm
 have d:uB++a=109::97::114::107::45::45::45::45::a:=rfl;rw[d]at c;clear d;unfold S at*;go_enter func228,ntmps228;go_wp2_with fail;refine ax (c _) λx1 g=>?_;go_wp2_with fail;refine ax (f _) λx2 h=>?_;go_wp2;go_ret;exact ⟨rfl,ai g h⟩
def Gd w (b c:Lb)(d:b.length=32)(a:c=[]\/c.length=16):
 Calls prog 227 #[S b,S c] w λe g=>e= .returned (.int .i64 0)/\w=g:=by
 have h:((b.length:Int) !=32)=false:=by rw[d];rfl
 unfold S;rcases a with rfl|a
 ·go_enter func227,ntmps227;go_wp2;go_ret;exact ⟨rfl,rfl⟩
 have i:((c.length:Int) !=16)=false:=by rw[a];rfl
 have f:c.isEmpty=false:=by rw[ou];intro e;rw[e]at a;simp at a
 have j:(!c.isEmpty)=true:=by rw[f];rfl
 go_enter func227,ntmps227;go_wp2;go_ret;exact ⟨rfl,rfl⟩
def Vq w (b a:Lb)(c:b.length=32)(i:a.length<=140737488355000):
 Calls prog 225 #[S b,S [],S a] w (Grown (.tuple #[S (tg b a++cI 16), .int .i64 0]) w):=by
 have AC:=λW:World=>Gd W b [] c (Or.inl rfl);have d:=λW:World=>Ge W b a c i;have f:∀W:World,Calls prog 62 #[.string ⟨#[0]⟩, .int .i64 16] W (Grown (S (cI 16)) W):=λW=>yt W 16 pm;have m:=Dh b a;have n:=Bh 16;unfold tg;generalize sQ b a=F at*;generalize cI 16=Z at*;have j:a.length+F.length<=9223372036854775807:=pm
 have k:(a++F).length+Z.length<=9223372036854775807:=by rw[aK];omega
 have l:a.length+F.length+Z.length<=9223372036854775807:=pm
 have o:=eD;unfold S at*;go_enter func225,ntmps225;go_wp2_with fail;refine (AC _).mono ?_;rintro e x ⟨rfl,rfl⟩;go_wp2_with fail;refine ax (d _) λx1 g=>?_;go_wp2_with fail;refine ax (f _) λx2 h=>?_;go_wp2;go_ret2;exact ⟨by rw[dM];rfl,ai g h⟩
def Vs w (b c a:Lb)(f:b.length=32)(d:c.length=16)(k:a.length<=140737488355000):
 Calls prog 225 #[S b,S c,S a] w (Grown (.tuple #[S (tg b a++fx c (tg b a) 16), .int .i64 0]) w):=by
 have AC:=λW:World=>Gd W b c f (Or.inr d);have g:=λW:World=>Ge W b a f k;have o:=Dh b a;unfold tg;generalize sQ b a=F at*;have h:∀W:World,Calls prog 229 #[S c,S (a++F), .int .i64 16] W (Grown (S (fx c (a++F) 16)) W):=λW=>xO W c (a++F) 16 pm pm pm (by rw[aK];omega);have p:=uc c (a++F) 16 pm;generalize fx c (a++F) 16=Z at*;have l:a.length+F.length<=9223372036854775807:=pm
 have m:(a++F).length+Z.length<=9223372036854775807:=by rw[aK];omega
 have n:a.length+F.length+Z.length<=9223372036854775807:=pm
 have q:c.isEmpty=false:=by rw[ou];intro e;rw[e]at d;simp at d
 have r:(c==[])=false:=by rw[dC];intro e;rw[e]at d;simp at d
 have s:=eD;unfold S at*;go_enter func225,ntmps225;go_wp2_with fail;refine (AC _).mono ?_;rintro e x ⟨rfl,rfl⟩;go_wp2_with fail;refine ax (g _) λx1 i=>?_;go_wp2_with fail;refine ax (h _) λx2 j=>?_;go_wp2;go_ret2;exact ⟨by rw[dM];rfl,ai i j⟩
def CV w (a:Nat)(f:a=1\/a=2)(s:Lb)(d:s.length<=9223372036854775000):
 Calls prog 91 #[.int .i64 a,S s] w (Grown (.tuple #[S (cx a s), .int .i64 0]) w):=by
 rcases f with rfl|rfl
 ·have b:∀W:World,Calls prog 160 #[S s] W (Grown (S (cx 1 s)) W):=λW=>yf W s d;generalize cx 1 s=V at*;unfold S at*;clear d;show Calls prog 91 #[.int .i64 1,_] w _;have g:=IA;go_enter func91,ntmps91;go_wp2_with fail;refine (Gk _).mono ?_;rintro e x1 ⟨rfl,rfl⟩;go_wp2_with fail;refine ax (b _) λx1 c=>?_;go_wp2;go_ret2;exact ⟨rfl,c⟩
 have b:∀W:World,Calls prog 162 #[S s] W (Grown (S (cx 2 s)) W):=λW=>yg W s pm;generalize cx 2 s=V at*;unfold S at*;clear d;show Calls prog 91 #[.int .i64 2,_] w _;have g:=IB;go_enter func91,ntmps91;go_wp2_with fail;refine (Gl _).mono ?_;rintro e x1 ⟨rfl,rfl⟩;go_wp2_with fail;refine ax (b _) λx1 c=>?_;go_wp2;go_ret2;exact ⟨rfl,c⟩
end
end Go.Proofs.YtmomfbkpniblgaaGreatDoor
