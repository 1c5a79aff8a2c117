/- A part of this claim's proof. -/
import Derived.Test.YtmomfbkpniblgaaGreatDoorYj21
import Derived.Test.YtmomfbkpniblgaaGreatDoorYj23
set_option linter.all false
set_option maxHeartbeats 8000000
set_option maxRecDepth 20000
namespace Go.Proofs.YtmomfbkpniblgaaGreatDoor
open Go.Proofs.Tryz
variable {s t:Lb}
section
open Go.RowKit
def LH w (s:Lb)(g:s.length<=1000000):Calls prog 206 #[S s] w (Grown (S (nM s)) w):=by
 have b:nM s=s++cI ((16-s.length%16)%16):=rfl;generalize nM s=V at*;have a:=Hq b;clear b;obtain ⟨m,hm⟩:=kq ((16-s.length%16)%16);rw[<-hm]at a;have h:m<16:=pm
 have e: -((s.length:Int)%16)%16=(m:Int):=by rw[hm];omega
 have d:=Hq hm;clear hm;have A:=λW:World=>yt W m pm;have i:=eD;have j:=Bh;have f:s.length+m<=9223372036854775807:=pm
 unfold S at*;go_enter func206,ntmps206;go_wp2_with fail;refine ax (A _) λx1 c=>?_;go_wp2_with fail;rw[a.out];go_ret;exact ⟨rfl,c⟩
def Gh w (key a more s:Lb)(u:key.length=32)(x:a.length=12)(hm:more.length<=100000)(hs:s.length<=100000):
 Calls prog 156 #[S key,S a,S more,S s] w (Grown (S (js key a more s)) w):=by
 have p:js key a more s=yG ((iL key a 0).take 32) (nM more++nM s++(aP more.length 8++aP s.length 8)):=rfl;generalize js key a more s=V at*;have g:∀W:World,Calls prog 205 #[S key,S a, .int .u32 0] W (lY (iL key a 0) W):=λW=>Lr W key a 0 u x pm;have lb:=FR key a 0;generalize iL key a 0=m at*;have i:∀W:World,Calls prog 96 #[.slice none 0 0, .int .u64 more.length, .int .i64 8] W (oG W W.heap.size (aP more.length 8)):=λW=>pD W W.heap.size (.slice none 0 0) [] more.length 8 (mO _ _) pm pm pu (bm _);have j:∀(W:World) (b:Nat) (v:Value),dq W b v (aP more.length 8)->b<=W.heap.size->Calls prog 96 #[v, .int .u64 s.length, .int .i64 8] W (oG W b (aP more.length 8++aP s.length 8)):=λW b v R U=>pD W b v (aP more.length 8) s.length 8 R pm pm (by rw[gE];omega) U;have lz:(aP more.length 8++aP s.length 8).length=16:=by rw[aK,gE,gE]
 have z:=λW:World=>LH W more pm;have C:=λW:World=>LH W s pm;have a2:=MY more;have a3:=MY s;have h:∀W:World,Calls prog 56 #[S (m.take 32),S (nM more++nM s++(aP more.length 8++aP s.length 8))] W (Grown (.tuple #[S V, .int .i64 0]) W):=λW=>by rw[p];exact VY W _ _ (by rw[aJ];omega) (by rw[aK,aK];omega)
 generalize nM more=c at*;generalize nM s=d at*;generalize aP more.length 8++aP s.length 8=y at*;rw[dM]at h;have w1:IntKind.u64.wrap (more.length:Int)=(more.length:Int):=dE _ pm;have w2:IntKind.u64.wrap (s.length:Int)=(s.length:Int):=dE _ pm;have k1:c.length+d.length<=9223372036854775807:=pm
 have k2:(c++d).length+y.length<=9223372036854775807:=by rw[aK];omega
 have k4:c.length+d.length+y.length<=9223372036854775807:=pm
 have k3:32<=m.length:=pm
 have r1:=eD;have r2:=dP;unfold S lY at*;clear p u x hm hs a2 a3;go_enter func156,ntmps156;go_wp2_with fail;refine ax (g _) λx1 r=>?_;go_wp2_with fail;refine (i _).mono ?_;rintro e x2 ⟨t1,rfl,q,f⟩;go_wp2_with fail;refine (j _ _ _ q f.size).mono ?_;rintro e x3 ⟨t2,rfl,a0,o⟩;have a1:=ai r (iU (f.trans o));clear r f o q i j g;unfold S;go_wp2_with fail;have k:=a0.drew;have c0:=jL k;unfold S at c0;go_region_with (first
  |(go_at_call 206;(with_reducible refine (z _).mono ?_);rintro e y1 ⟨rfl,n⟩;have l:=k.Ih n;have c1:=jL l;unfold S at c1)
  |(go_at_call 206;(with_reducible refine (C _).mono ?_);rintro e y2 ⟨rfl,g2⟩;have I:=l.Ih g2;have J:=jL I;unfold S at J)
  |(go_at_call 56;(with_reducible refine (h _).mono ?_);rintro e y3 ⟨rfl,P⟩))
 all_goals
  go_wp2;go_ret;exact ⟨rfl,ai (ai (ai (aM a1) n) g2) P⟩
def mi(key b more c:Lb)(a:Nat):Int:=if key.length=32/\b.length=12then(if more.length<=2000/\c.length<=a then 0 else 2)else 1
def CN w key nonce more text (f:Nat)(hm:f<=100000):
 Calls prog 154 #[S key,S nonce,S more,S text, .int .i64 f] w λe n=>e= .returned (.int .i64 (mi key nonce more text f))/\w=n:=by
 obtain ⟨V,i⟩:=kq (mi key nonce more text f);rw[<-i];have a:=Hq i;clear i;unfold S;by_cases c:key.length=32
 ·have j:((key.length:Int) !=32)=false:=pp
  by_cases d:nonce.length=12
  ·have k:((nonce.length:Int) !=12)=false:=pp;by_cases g:more.length<=2000
   ·have l:decide ((2000:Int)<(more.length:Int))=false:=pp;by_cases h:text.length<=f
    ·have m:¬f<text.length:=pm;have b:=Hq (show V=0from by rw[a.out];unfold mi;rw[av ⟨c,d⟩,av ⟨g,h⟩]);clear c d g h a;go_enter func154,ntmps154;go_wp2;go_ret;exact ⟨by rw[b.out];rfl,rfl⟩
    have m:f<text.length:=pm;have b:=Hq (show V=2from by rw[a.out];unfold mi;rw[av ⟨c,d⟩,au pm]);clear c d g h a;go_enter func154,ntmps154;go_wp2;go_ret;exact ⟨by rw[b.out];rfl,rfl⟩
   have l:decide ((2000:Int)<(more.length:Int))=true:=pp;have b:=Hq (show V=2from by rw[a.out];unfold mi;rw[av ⟨c,d⟩,au pm]);clear c d g a;go_enter func154,ntmps154;go_wp2;go_ret;exact ⟨by rw[b.out];rfl,rfl⟩
  have k:((nonce.length:Int) !=12)=true:=pp
  have b:=Hq (show V=1from by rw[a.out];unfold mi;rw[au pm]);clear c d a;go_enter func154,ntmps154;go_wp2;go_ret;exact ⟨by rw[b.out];rfl,rfl⟩
 have j:((key.length:Int) !=32)=true:=pp
 have b:=Hq (show V=1from by rw[a.out];unfold mi;rw[au pm]);clear c a;go_enter func154,ntmps154;go_wp2;go_ret;exact ⟨by rw[b.out];rfl,rfl⟩
def DU(n:Int):Value:= .tuple #[S [], .int .i64 n]
def GA w (key a more b:Lb)(c:key.length=32)(d:a.length=12)(hm:more.length<=2000)(g:b.length<=2000):
 Calls prog 101 #[S key,S a,S more,S b] w (lY (wF key a more b) w):=by
 have H:=Hq (show mi key a more b 2000=0from by unfold mi;rw[av ⟨c,d⟩,av ⟨hm,g⟩]);have f:wF key a more b=jk key a 1 b++js key a more (jk key a 1 b):=rfl;generalize wF key a more b=V at*;have h:∀W:World,Calls prog 155 #[S key,S a, .int .u32 1,S b] W (lY (jk key a 1 b) W):=λW=>Ly W key a b 1 c d pm g;have m:=CK key a 1 b;have i:∀W:World,Calls prog 156 #[S key,S a,S more,S (jk key a 1 b)] W (Grown (S (js key a more (jk key a 1 b))) W):=λW=>Gh W key a more _ c d pm pm;have lt:=Ek key a more (jk key a 1 b);generalize js key a more (jk key a 1 b)=T at*;generalize jk key a 1 b=C at*;have j:=Hq f;have n:C.length+T.length<=9223372036854775807:=pm
 have o:=eD;clear f c d hm m lt;unfold S lY at*;go_enter func101,ntmps101;go_wp2_with fail;refine (CN w key a more b 2000 pm).mono ?_;rintro e p ⟨rfl,rfl⟩;rw[H.out];go_wp2_with fail;refine ax (h _) λq k=>?_;unfold S;go_wp2_with fail;refine ax (i _) λr l=>?_;go_wp2_with fail;rw[j.out];go_ret2;exact ⟨rfl,ai k l⟩
def Gx w (key b more a:Lb)(c:key.length=32)(d:b.length=12)(hm:more.length<=2000)(f:a.length<16):
 Calls prog 103 #[S key,S b,S more,S a] w λe g=>e= .returned (DU 4)/\w=g:=by
 have H:=Hq (show mi key b more a 2016=0from by unfold mi;rw[av ⟨c,d⟩,av ⟨hm,pm⟩]);have q:(a.length:Int)<16:=pm
 clear c d hm f;unfold S DU;go_enter func103,ntmps103;go_wp2_with fail;refine (CN w key b more a 2016 pm).mono ?_;rintro e h ⟨rfl,rfl⟩;rw[H.out];go_wp2;go_ret2;exact ⟨rfl,rfl⟩
def Gv w (key a more c:Lb)(d:key.length=32)(f:a.length=12)(hm:more.length<=2000)(g:c.length<=2000):
 Calls prog 103 #[S key,S a,S more,S (c++js key a more c)] w (lY (jk key a 1 c) w):=by
 have lt:=Ek key a more c;have H:=Hq (show mi key a more (c++js key a more c) 2016=0from by unfold mi;rw[av ⟨d,f⟩,av ⟨hm,by rw[aK];omega⟩]);have h:∀W:World,Calls prog 155 #[S key,S a, .int .u32 1,S c] W (lY (jk key a 1 c) W):=λW=>Ly W key a c 1 d f pm g;have i:∀W:World,Calls prog 156 #[S key,S a,S more,S c] W (Grown (S (js key a more c)) W):=λW=>Gh W key a more _ d f pm pm;generalize js key a more c=T at*;generalize jk key a 1 c=C at*;obtain ⟨U,b⟩:=kq (c++T);rw[<-b]at H⊢;have l:U.length=c.length+16:=by rw[b,aK,lt]
 have y:U.take c.length=c:=by rw[b,yZ]
 have u:¬((U.length:Int)<16):=pm
 have n:((U.length:Int)-16)=(c.length:Int):=pm
 have o:(0:Int)<=(c.length:Int):=pm
 have p:(c.length:Int)<=(U.length:Int):=pm
 have v:=eD;have x:=dP;have r:c.length+T.length<=9223372036854775807:=pm
 have m:=Hq b;have q:(c++T==U)=true:=sd.mpr b.symm;clear b d f hm lt l g;unfold S lY at*;go_enter func103,ntmps103;go_wp2_with fail;refine (CN w key a more U 2016 pm).mono ?_;rintro e z ⟨rfl,rfl⟩;rw[H.out];go_wp2_with fail;refine ax (i _) λI j=>?_;go_wp2_with fail;refine ax (h _) λJ k=>?_;unfold S;go_wp2;go_ret2;exact ⟨rfl,ai j k⟩
def jS(b:Nat)(key:Lb)(n:Nat)(more a:Lb):Lb:=if b=1then wF key (cF 1 n) more a else xY key (cF 2 n) more a
def Ej (a:Nat)(key:Lb)(n:Nat) more text (b:key.length=32):(jS a key n more text).length=text.length+16:=by
 unfold jS;split
 ·exact Qj _ _ _ _
 exact XZ _ _ _ _ b (ki 2 n)
def D9 w (b:Nat)(f:b=1\/b=2)(key more a:Lb)(n:Nat)(d:n<18446744073709551616)(c:key.length=32)(hm:more.length<=2000)(e:a.length<=2000):
 Calls prog 169 #[.int .i64 b,S key, .int .u64 n,S more,S a] w (Grown (.tuple #[S (jS b key n more a), .int .i64 0]) w):=by
 rcases f with rfl|rfl
 ·exact VM w key more a _ n 0 d λW=>GA W key (cF 1 n) more a c (ki 1 n) hm e
 exact VN w key more a _ n 0 d λW=>LP W key (cF 2 n) more a c (ki 2 n) hm e
def Gw w (key a more c t:Lb)(d:key.length=32)(f:a.length=12)(hm:more.length<=2000)(i:c.length<=2000)(lt:t.length=16)(g:t≠js key a more c):
 Calls prog 103 #[S key,S a,S more,S (c++t)] w (Grown (DU 6) w):=by
 have H:=Hq (show mi key a more (c++t) 2016=0from by unfold mi;rw[av ⟨d,f⟩,av ⟨hm,by rw[aK];omega⟩]);have h:∀W:World,Calls prog 156 #[S key,S a,S more,S c] W (Grown (S (js key a more c)) W):=λW=>Gh W key a more _ d f pm pm;have l:=Ek key a more c;generalize js key a more c=T at*;obtain ⟨U,b⟩:=kq (c++t);rw[<-b]at H⊢;have k:U.length=c.length+16:=by rw[b,aK,lt]
 have y:U.take c.length=c:=by rw[b,yZ]
 have u:¬((U.length:Int)<16):=pm
 have n:((U.length:Int)-16)=(c.length:Int):=pm
 have o:(0:Int)<=(c.length:Int):=pm
 have p:(c.length:Int)<=(U.length:Int):=pm
 have v:=eD;have x:=dP;have r:c.length+T.length<=9223372036854775807:=pm
 have m:=Hq b;have q:(c++T==U)=false:=by rw[dC,b];intro e;exact g (List.append_cancel_left e).symm
 clear b d f hm lt k i g l;unfold S DU Grown at*;go_enter func103,ntmps103;go_wp2_with fail;refine (CN w key a more U 2016 pm).mono ?_;rintro e z ⟨rfl,rfl⟩;rw[H.out];go_wp2_with fail;refine ax (h _) λC j=>?_;go_wp2;go_ret2;exact ⟨rfl,j⟩
def unbox(f a:Lb->Lb)(s:Lb):Option Lb:=
 if s.length<16then none else if s.drop (s.length-16)=a (s.take (s.length-16))then some (f (s.take (s.length-16)))else none
def JM {f b:Lb->Lb}(a:∀c,(f c).length=c.length)(h:unbox f b s=some t):t.length+16=s.length:=by
 unfold unbox at h;split at h
 ·cases h
 split at h
 ·obtain rfl:=aH h;rw[a,aJ];omega
 cases h
def mv(a:Nat)(key:Lb)(n:Nat)(more s:Lb):Option Lb:=
 if a=1then unbox (jk key (cF 1 n) 1) (js key (cF 1 n) more) s else unbox (jN key (cF 2 n)) (jO key (cF 2 n) more) s
def Pp {a n:Nat}{key more:Lb}(b:key.length=32)(h:mv a key n more s=some t):t.length+16=s.length:=by
 unfold mv at h;split at h
 ·exact JM (λc=>CK _ _ _ _) h
 exact JM (λc=>Hf _ _ _ b (ki 2 n)) h
def D8 (d:Nat)(l:d=1\/d=2)(key more s:Lb)(n:Nat)(g:n<18446744073709551616)(f:key.length=32)(hm:more.length<=2000)(o:s.length<=2016):
 (∃t,mv d key n more s=some t/\∀W:World,Calls prog 276 #[.int .i64 d,S key, .int .u64 n,S more,S s] W (Grown (.tuple #[S t, .int .i64 0]) W))\/
 (mv d key n more s=none/\∃c:Nat,c≠0/\c<=15/\∀W:World,Calls prog 276 #[.int .i64 d,S key, .int .u64 n,S more,S s] W (Grown (.tuple #[S [], .int .i64 c]) W)):=by
 have e:s=s.take (s.length-16)++s.drop (s.length-16):=(pJ _ _).symm;unfold mv unbox;rcases l with rfl|rfl
 ·rw[av rfl];by_cases b:s.length<16
  ·rw[av b];refine Or.inr ⟨rfl,4,pm,pm,λW=>Gq W key more s [] n 4 g λW2=>(Gx W2 key (cF 1 n) more s f (ki 1 n) hm b).mono λe m ⟨i,j⟩=>⟨i,j▸ak _ _⟩⟩
  have k:(s.drop (s.length-16)).length=16:=by rw[aR];omega
  have h:(s.take (s.length-16)).length<=2000:=by rw[aJ];omega
  rw[au b];by_cases a:s.drop (s.length-16)=js key (cF 1 n) more (s.take (s.length-16))
  ·rw[av a];refine Or.inl ⟨_,rfl,λW=>Gq W key more s _ n 0 g λW2=>?_⟩;have:=Gv W2 key (cF 1 n) more (s.take (s.length-16)) f (ki 1 n) hm h;rw[<-a,<-e]at this;exact this
  rw[au a];refine Or.inr ⟨rfl,6,pm,pm,λW=>Gq W key more s [] n 6 g λW2=>?_⟩;have:=Gw W2 key (cF 1 n) more _ _ f (ki 1 n) hm h k a;rwa[<-e]at this
 rw[au ut];by_cases b:s.length<16
 ·rw[av b];refine Or.inr ⟨rfl,4,pm,pm,λW=>Gs W key more s [] n 4 g λW2=>(LO W2 key (cF 2 n) more s f (ki 2 n) hm b).mono λe m ⟨i,j⟩=>⟨i,j▸ak _ _⟩⟩
 have k:(s.drop (s.length-16)).length=16:=by rw[aR];omega
 have h:(s.take (s.length-16)).length<=2000:=by rw[aJ];omega
 rw[au b];by_cases a:s.drop (s.length-16)=jO key (cF 2 n) more (s.take (s.length-16))
 ·rw[av a];refine Or.inl ⟨_,rfl,λW=>Gs W key more s _ n 0 g λW2=>?_⟩;have:=LJ W2 key (cF 2 n) more (s.take (s.length-16)) f (ki 2 n) hm h;rw[<-a,<-e]at this;exact this
 rw[au a];refine Or.inr ⟨rfl,6,pm,pm,λW=>Gs W key more s [] n 6 g λW2=>?_⟩;have:=LM W2 key (cF 2 n) more _ _ f (ki 2 n) hm h k a;rwa[<-e]at this
def US w (key b more d a:Lb)(n:Int)(h:key.length=32)(m:b.length=24)
 (C:∀W:World,Calls prog 101 #[S (jA key (b.take 16)),S ([0,0,0,0]++b.drop 16),S more,S d] W (Grown (.tuple #[S a, .int .i64 n]) W)):
 Calls prog 271 #[S key,S b,S more,S d, .func (.func 101) #[] #[]] w (Grown (.tuple #[S a, .int .i64 n]) w):=by
 have e:∀W:World,Calls prog 287 #[S key,S (b.take 16)] W (lY (jA key (b.take 16)) W):=λW=>Ml W key _ h (by rw[aJ];omega);generalize jA key (b.take 16)=K at*;have u:((key.length:Int) !=32)=false:=pp
 have v:((b.length:Int) !=24)=false:=pp
 have i:=eD;have x:=dP;have k:(16:Int)<=(b.length:Int):=pm
 have l:16<=b.length:=pm
 have o:List.take (b.length-16) (List.drop 16 b)=List.drop 16 b:=cE pu;have p:List.take 8 (List.drop 16 b)=List.drop 16 b:=cE (by rw[aR];omega);have j:ByteArray.mk #[0,0,0,0]++ByteArray.mk (List.drop 16 b).toArray=⟨([0,0,0,0]++List.drop 16 b).toArray⟩:=eD [0,0,0,0] (List.drop 16 b);obtain ⟨O,c⟩:=kq ([0,0,0,0]++List.drop 16 b);rw[<-c]at j C;have r:(ByteArray.mk #[0,0,0,0]).size=4:=rfl;have q:4+(b.length-16)<=9223372036854775807:=pm
 clear c i;unfold S lY at*;go_enter func271,ntmps271;go_wp2_with fail;refine ax (e _) λy f=>?_;unfold S;go_wp2_with fail;refine ax (C _) λz g=>?_;go_wp2;go_ret2;exact ⟨rfl,ai f g⟩
def UP w (key b more c a:Lb)(n:Int)(e:key.length=32)(f:b.length=24)
 (C:∀W:World,Calls prog 101 #[S (jA key (b.take 16)),S ([0,0,0,0]++b.drop 16),S more,S c] W (Grown (.tuple #[S a, .int .i64 n]) W)):
 Calls prog 230 #[S key,S b,S more,S c] w (Grown (.tuple #[S a, .int .i64 n]) w):=by
 have B:=λW:World=>US W key b more c a n e f C;clear C;unfold S at*;go_enter func230,ntmps230;go_wp2_with fail;refine ax (B _) λg d=>?_;go_wp2;go_ret2;exact ⟨rfl,d⟩
def UR w (key b more d a:Lb)(n:Int)(h:key.length=32)(m:b.length=24)
 (C:∀W:World,Calls prog 103 #[S (jA key (b.take 16)),S ([0,0,0,0]++b.drop 16),S more,S d] W (Grown (.tuple #[S a, .int .i64 n]) W)):
 Calls prog 271 #[S key,S b,S more,S d, .func (.func 103) #[] #[]] w (Grown (.tuple #[S a, .int .i64 n]) w):=by
 have e:∀W:World,Calls prog 287 #[S key,S (b.take 16)] W (lY (jA key (b.take 16)) W):=λW=>Ml W key _ h (by rw[aJ];omega);generalize jA key (b.take 16)=K at*;have u:((key.length:Int) !=32)=false:=pp
 have v:((b.length:Int) !=24)=false:=pp
 have i:=eD;have x:=dP;have k:(16:Int)<=(b.length:Int):=pm
 have l:16<=b.length:=pm
 have o:List.take (b.length-16) (List.drop 16 b)=List.drop 16 b:=cE pu;have p:List.take 8 (List.drop 16 b)=List.drop 16 b:=cE (by rw[aR];omega);have j:ByteArray.mk #[0,0,0,0]++ByteArray.mk (List.drop 16 b).toArray=⟨([0,0,0,0]++List.drop 16 b).toArray⟩:=eD [0,0,0,0] (List.drop 16 b);obtain ⟨O,c⟩:=kq ([0,0,0,0]++List.drop 16 b);rw[<-c]at j C;have r:(ByteArray.mk #[0,0,0,0]).size=4:=rfl;have q:4+(b.length-16)<=9223372036854775807:=pm
 clear c i;unfold S lY at*;go_enter func271,ntmps271;go_wp2_with fail;refine ax (e _) λy f=>?_;unfold S;go_wp2_with fail;refine ax (C _) λz g=>?_;go_wp2;go_ret2;exact ⟨rfl,ai f g⟩
def UQ w (key b more c a:Lb)(n:Int)(e:key.length=32)(f:b.length=24)
 (C:∀W:World,Calls prog 103 #[S (jA key (b.take 16)),S ([0,0,0,0]++b.drop 16),S more,S c] W (Grown (.tuple #[S a, .int .i64 n]) W)):
 Calls prog 245 #[S key,S b,S more,S c] w (Grown (.tuple #[S a, .int .i64 n]) w):=by
 have B:=λW:World=>UR W key b more c a n e f C;clear C;unfold S at*;go_enter func245,ntmps245;go_wp2_with fail;refine ax (B _) λg d=>?_;go_wp2;go_ret2;exact ⟨rfl,d⟩
end
end Go.Proofs.YtmomfbkpniblgaaGreatDoor
