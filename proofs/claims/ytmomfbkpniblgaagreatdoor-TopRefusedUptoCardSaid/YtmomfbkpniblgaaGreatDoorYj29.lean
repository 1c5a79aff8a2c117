/- A part of this claim's proof. -/
import Derived.Test.YtmomfbkpniblgaaGreatDoorYj20
import Derived.Test.YtmomfbkpniblgaaGreatDoorYj25
set_option linter.all false
set_option maxHeartbeats 8000000
namespace Go.Proofs.YtmomfbkpniblgaaGreatDoor
open Go.Proofs.Tryz
variable {ag s t:Lb}
section
open Go.RowKit
def Db:Lb:=[99,111,111,107,105,101,45,45]
def kh(ag:Lb):Lb:=fx [] (Db++ag) 32
def Og ag:(kh ag).length=32:=uc _ _ _ pm
def Lw w (ag:Lb)(d:ag.length=32):Calls prog 231 #[S ag] w (Grown (S (kh ag)) w):=by
 have a:∀W:World,Calls prog 229 #[S [],S (Db++ag), .int .i64 32] W (Grown (S (kh ag)) W):=λW=>xO W [] (Db++ag) 32 pu pm pm (by rw[aK,d];decide);generalize kh ag=K at*;have f:=eD;have e:8+ag.length<=9223372036854775807:=pm
 have b:Db++ag=99::111::111::107::105::101::45::45::ag:=rfl;rw[b]at a;clear b;unfold S at*;go_enter func231,ntmps231;go_wp2_with fail;refine ax (a _) λx1 c=>?_;go_wp2;go_ret;exact ⟨rfl,c⟩
def Dc(ag a c l:Lb):Lb:=wF (jA (kh ag) (a.take 16)) ([0,0,0,0]++a.drop 16) (kF l) c
def Mp ag nonce c l:(Dc ag nonce c l).length=c.length+16:=Qj _ _ _ _
def wC(ag a c l:Lb):Lb:=mU l++a++Dc ag a c l
def Ue w (ag a c l:Lb)(d:ag.length=32)(b:a.length=24)(f:c.length=16)(h:38<=l.length)(g:l.length<=9223372036854775807):
 Calls prog 175 #[S ag,S a,S c,S l] w (Grown (.tuple #[S (wC ag a c l), .int .i64 0]) w):=by
 have k:=λW:World=>Lw W ag d;have m:=λW:World=>Lx W l pm g;have i:(jA (kh ag) (a.take 16)).length=32:=QP _ _;have j:([0,0,0,0]++a.drop 16).length=12:=by rw[aK,aR,b];rfl
 have v:=OC l pm;have n:∀W:World,Calls prog 230 #[S (kh ag),S a,S (kF l),S c] W (Grown (.tuple #[S (Dc ag a c l), .int .i64 0]) W):=λW=>UP W (kh ag) a (kF l) c _ 0 (Og _) b λW=>GA W _ _ (kF l) c i j pm pm;have o:=λW:World=>Gf W l pm g;have u:=NK l pm;have x:=Mp ag a c l;unfold wC;generalize Dc ag a c l=A at*;generalize kh ag=K at*;generalize kF l=M at*;generalize mU l=H at*;have I:((ag.length:Int) !=32)=false:=by rw[d];rfl
 have J:((a.length:Int) !=24)=false:=by rw[b];rfl
 have P:((c.length:Int) !=16)=false:=by rw[f];rfl
 have R:¬((l.length:Int)<38):=pm
 have y:H.length+a.length<=9223372036854775807:=pm
 have z:(H++a).length+A.length<=9223372036854775807:=by rw[aK];omega
 have C:H.length+a.length+A.length<=9223372036854775807:=pm
 have U:=eD;clear d b f i j v u x;unfold S at*;go_enter func175,ntmps175;go_wp2_with fail;refine ax (k _) λx1 p=>?_;go_wp2_with fail;refine (m _).mono ?_;rintro e x2 ⟨rfl,rfl⟩;go_wp2_with fail;refine ax (n _) λx3 q=>?_;go_wp2_with fail;refine ax (o _) λx4 r=>?_;go_wp2;go_ret2;exact ⟨by rw[dM];rfl,ai (ai p q) r⟩
def qc(ag c s:Lb):Option (Lb×Bool):=
 if s.length<32then none else
 if tg ag (s.take (s.length-32))=s.take (s.length-16)then some (s.take (s.length-32),s.take (s.length-16)++fx c (s.take (s.length-16)) 16==s)else none
def TE {c}{b:Bool}(h:qc ag c s=some (t,b)):t.length+32=s.length:=by
 unfold qc at h;split at h
 ·cases h
 split at h
 ·injection h with h;injection h with a d;rw[<-a,aJ];omega
 cases h
def ue(s:Lb):Nat:=if s.length<32then 4 else 6
def Cc(s:Lb)(r:Option (Lb×Bool)):Value:=match r with
 |some (t,b)=> .tuple #[S t, .bool b, .int .i64 0]
 |none=> .tuple #[S [], .bool false, .int .i64 (ue s)]
def Ub w (ag c s:Lb)(g:ag.length=32)(a:c.length=16)(hs:s.length<=2000):
 Calls prog 174 #[S ag,S c,S s] w (Grown (Cc s (qc ag c s)) w):=by
 have AC:=λW:World=>Gd W ag c g (Or.inr a);by_cases b:s.length<32
 ·have e:Cc s (qc ag c s)= .tuple #[S [], .bool false, .int .i64 4]:=by
   have m:qc ag c s=none:=by unfold qc;rw[av b]
   have n:ue s=4:=by unfold ue;rw[av b]
   rw[m];show Value.tuple #[S [], .bool false, .int .i64 (ue s)]=_;rw[n];rfl
  rw[e];have z:((s.length:Int)<32):=pm
  clear e g a;unfold S at*;go_enter func174,ntmps174;go_wp2_with fail;refine (AC _).mono ?_;rintro e x ⟨rfl,rfl⟩;go_wp2_with fail;refine bodyPost_ret (v:= .tuple #[.string ⟨#[]⟩, .bool false, .int .i64 4]) (by simp[results,results174,go_sem]) rfl ?_;exact ⟨rfl,ak _ _⟩
 obtain ⟨t,h⟩:=kq (s.take (s.length-32));obtain ⟨M,f⟩:=kq (s.take (s.length-16));have lt:t.length=s.length-32:=by rw[h,aJ];omega
 have k:M.length=s.length-16:=by rw[f,aJ];omega
 have l:=λW:World=>Ge W ag t g pm;have p:=Dh ag t;have r:∀W:World,Calls prog 229 #[S c,S M, .int .i64 16] W (Grown (S (fx c M 16)) W):=λW=>xO W c M 16 pm pm pm pm;have o:=uc c M 16 pm;have i:qc ag c s=if t++sQ ag t=M then some (t,M++fx c M 16==s)else none:=by unfold qc;rw[au b,<-h,<-f];rfl
 rw[i];generalize sQ ag t=F at*;generalize fx c M 16=R at*;have tM:s.take M.length=M:=by rw[k,<-f]
 have tU:s.take t.length=t:=by rw[lt,<-h]
 have z:¬((s.length:Int)<32):=pm
 have m:((s.length:Int)-32)=(t.length:Int):=pm
 have n:((s.length:Int)-16)=(M.length:Int):=pm
 have C:(t.length:Int)<=(s.length:Int):=pm
 have I:(M.length:Int)<=(s.length:Int):=pm
 have J:(0:Int)<=(M.length:Int):=pm
 have P:(0:Int)<=(t.length:Int):=pm
 have k1:t.length+F.length<=9223372036854775807:=pm
 have k2:M.length+R.length<=9223372036854775807:=pm
 have q3:c.isEmpty=false:=by rw[ou];intro e;rw[e]at a;simp at a
 have q5:(c==[])=false:=by rw[dC];intro e;rw[e]at a;simp at a
 have r1:=eD;have r2:=dP;by_cases d:t++F=M
 ·have q:(t++F==M)=true:=sd.mpr d;rw[av d];show Calls prog 174 _ w (Grown (.tuple #[S t, .bool (M++R==s), .int .i64 0]) w);generalize U:(M++R==s)=u at*;clear i f h g o p k lt a b d;unfold S at*;go_enter func174,ntmps174;go_wp2_with fail;refine (AC _).mono ?_;rintro e x ⟨rfl,rfl⟩;go_wp2_with fail;refine ax (l _) λx1 j=>?_;go_wp2_with fail;refine ax (r _) λx2 y=>?_;go_wp2_with fail;refine bodyPost_ret (v:= .tuple #[.string ⟨t.toArray⟩, .bool u, .int .i64 0]) (by simp[results,results174,go_sem]) rfl ?_;exact ⟨rfl,ai j y⟩
 have q:(t++F==M)=false:=dC.mpr d;rw[au d];have e:Cc s none= .tuple #[S [], .bool false, .int .i64 6]:=by unfold Cc ue;rw[au b];rfl
 rw[e];clear i f h g o p k lt a b d e;unfold S at*;go_enter func174,ntmps174;go_wp2_with fail;refine (AC _).mono ?_;rintro e x ⟨rfl,rfl⟩;go_wp2_with fail;refine ax (l _) λx1 j=>?_;go_wp2_with fail;refine bodyPost_ret (v:= .tuple #[.string ⟨#[]⟩, .bool false, .int .i64 6]) (by simp[results,results174,go_sem]) rfl ?_;exact ⟨rfl,j⟩
def Uf w (ag a c l:Lb)(e:ag.length=32)(d:a.length=24)(b:c.length=16)(h:l.length<38):
 Calls prog 175 #[S ag,S a,S c,S l] w (Grown (.tuple #[S [], .int .i64 4]) w):=by
 have f:((ag.length:Int) !=32)=false:=by rw[e];rfl
 have g:((a.length:Int) !=24)=false:=by rw[d];rfl
 have i:((c.length:Int) !=16)=false:=by rw[b];rfl
 have j:((l.length:Int)<38):=pm
 unfold S;go_enter func175,ntmps175;go_wp2;go_ret2;exact ⟨rfl,ak _ _⟩
def vL(ag m s:Lb):Option Lb:=
 if m.length<38then none else if s.length≠62then none else if s.take 6≠mU m then none else
 unbox (jk (jA (kh ag) (((s.drop 6).take 24).take 16)) ([0,0,0,0]++((s.drop 6).take 24).drop 16) 1) (js (jA (kh ag) (((s.drop 6).take 24).take 16)) ([0,0,0,0]++((s.drop 6).take 24).drop 16) (kF m)) (s.drop 30)
def RU {m}(h:vL ag m s=some t):t.length=16:=by
 unfold vL at h;split at h
 ·cases h
 split at h
 ·cases h
 split at h
 ·cases h
 rename_i a _;have:=JM (λc=>CK _ _ _ _) h;rw[aR]at this;have a:=Classical.not_not.1 a;omega
def JW(c:Nat)(r:Option Lb):Value:=match r with
 |some t=> .tuple #[S t, .int .i64 0]
 |none=> .tuple #[S [], .int .i64 c]
def H' (key a more s:Lb)(f:key.length=32)(g:a.length=12)(hm:more.length<=2000)(l:s.length<=2016):
 ∃c:Nat,c≠0/\c<=15/\∀W:World,Calls prog 103 #[S key,S a,S more,S s] W (Grown (JW c (unbox (jk key a 1) (js key a more) s)) W):=by
 have e:s=s.take (s.length-16)++s.drop (s.length-16):=(pJ _ _).symm;unfold unbox;by_cases d:s.length<16
 ·rw[av d];exact ⟨4,pm,pm,λW=>(Gx W key a more s f g hm d).mono λe m ⟨i,j⟩=>⟨i,j▸ak _ _⟩⟩
 have k:(s.drop (s.length-16)).length=16:=by rw[aR];omega
 have h:(s.take (s.length-16)).length<=2000:=by rw[aJ];omega
 rw[au d];by_cases b:s.drop (s.length-16)=js key a more (s.take (s.length-16))
 ·rw[av b];refine ⟨1,pm,pm,λW=>?_⟩;have:=Gv W key a more (s.take (s.length-16)) f g hm h;rw[<-b,<-e]at this;exact this
 rw[au b];refine ⟨6,pm,pm,λW=>?_⟩;have:=Gw W key a more _ _ f g hm h k b;rwa[<-e]at this
def Lu w (ag m s:Lb)(a:ag.length=32)(h:m.length<38\/s.length<62):
 Calls prog 185 #[S ag,S m,S s] w (Grown (.tuple #[S [], .int .i64 4]) w):=by
 have d:((ag.length:Int) !=32)=false:=by rw[a];rfl
 by_cases c:m.length<38
 ·have b:decide ((m.length:Int)<38)=true:=pp
  unfold S;go_enter func185,ntmps185;go_wp2;go_ret2;exact ⟨rfl,ak _ _⟩
 have b:decide ((m.length:Int)<38)=false:=pp
 have e:decide ((s.length:Int)<62)=true:=pp
 unfold S;go_enter func185,ntmps185;go_wp2;go_ret2;exact ⟨rfl,ak _ _⟩
def Ud w (ag m s:Lb)(a:ag.length=32)(hm:38<=m.length)(h:62<s.length):
 Calls prog 185 #[S ag,S m,S s] w (Grown (.tuple #[S [], .int .i64 5]) w):=by
 have b:((ag.length:Int) !=32)=false:=by rw[a];rfl
 have c:¬((m.length:Int)<38):=pm
 have d:¬((s.length:Int)<62):=pm
 have e:(62:Int)<(s.length:Int):=pm
 unfold S;go_enter func185,ntmps185;go_wp2_with fail
 go_quiet (fail)
 go_wp2;go_ret2;exact ⟨rfl,by repeat(first|exact ak _ _|apply iT)⟩
def Uc w (ag m s:Lb)(f:ag.length=32)(hm:38<=m.length)(j:m.length<=9223372036854775807)(h:s.length=62)(b:s.take 6≠mU m):
 Calls prog 185 #[S ag,S m,S s] w (Grown (.tuple #[S [], .int .i64 5]) w):=by
 have g:=λW:World=>Gf W m pm j;obtain ⟨c,a⟩:=kq (s.take 6);have l:((ag.length:Int) !=32)=false:=by rw[f];rfl
 have n:¬((m.length:Int)<38):=pm
 have o:¬((s.length:Int)<62):=pm
 have p:¬((62:Int)<(s.length:Int)):=pm
 have k:(6:Int)<=(s.length:Int):=pm
 have q:(ByteArray.mk s.toArray).extract 0 6=⟨c.toArray⟩:=by rw[dP,a];rfl
 have z:(c !=mU m)=true:=by rw[dY,a];exact b
 have r:(c==mU m)=false:=by rw[dC,a];exact b
 generalize mU m=H at*;clear f a b;unfold S at*;go_enter func185,ntmps185;go_wp2_with fail;go_region_held3 (λ_=>True) (first|trivial) (first
  |(go_at_call 233;(with_reducible refine (g _).mono ?_);rintro e x1 ⟨rfl,d⟩))
 all_goals
  have i:=Hq (ai (aM (ak _ none)) d);clear d;go_wp2;go_ret2;exact ⟨rfl,i.out⟩
def Lt w (ag m s:Lb)(d:ag.length=32)(hm:38<=m.length)(x:m.length<=2000)(h:s.length=62)(o:s.take 6=mU m) a (n:Int)
 (C:∀W:World,Calls prog 103 #[S (jA (kh ag) (((s.drop 6).take 24).take 16)),S ([0,0,0,0]++((s.drop 6).take 24).drop 16),S (kF m),S (s.drop 30)] W (Grown (.tuple #[S a, .int .i64 n]) W)):
 Calls prog 185 #[S ag,S m,S s] w (Grown (.tuple #[S a, .int .i64 n]) w):=by
 have q:=λW:World=>Lw W ag d;have r:=λW:World=>Lx W m pm pm;have u:=λW:World=>Gf W m pm pm;have p:((s.drop 6).take 24).length=24:=by rw[aJ,aR];omega
 have f:∀W:World,Calls prog 245 #[S (kh ag),S ((s.drop 6).take 24),S (kF m),S (s.drop 30)] W (Grown (.tuple #[S a, .int .i64 n]) W):=λW=>UQ W (kh ag) _ (kF m) _ a n (Og _) p C;generalize kh ag=K at*;generalize kF m=M at*;generalize mU m=H at*;obtain ⟨O,c⟩:=kq ((s.drop 6).take 24);obtain ⟨A,b⟩:=kq (s.drop 30);rw[<-c,<-b]at f;have t1:s.take 6=H:=o;have t2:(s.drop 6).take 24=O:=c.symm;have i:s.drop 30=A:=b.symm;have t3:(s.drop 30).take 32=A:=by rw[i];exact cE (by rw[b,aR];omega)
 have P:((ag.length:Int) !=32)=false:=by rw[d];rfl
 have R:¬((m.length:Int)<38):=pm
 have U:¬((s.length:Int)<62):=pm
 have q6:¬((62:Int)<(s.length:Int)):=pm
 have y:(6:Int)<=(s.length:Int):=pm
 have I:(30:Int)<=(s.length:Int):=pm
 have J:s.length-30=32:=pm
 have r2:=dP;have z:(H !=H)=false:=pu
 clear d C p c b o i;unfold S at*;go_enter func185,ntmps185;go_wp2_with fail;go_region_held3 (λ_=>True) (first|trivial) (first
  |(go_at_call 233;(with_reducible refine (u _).mono ?_);rintro e x1 ⟨rfl,l⟩))
 all_goals
  have g:=Hq (ai (aM (ak _ none)) l);clear l;go_wp2_with fail;go_region_held3 (λ_=>True) (first|trivial) (first
   |(go_at_call 231;(with_reducible refine (q _).mono ?_);rintro e y1 ⟨rfl,j⟩)
   |(go_at_call 232;(with_reducible refine (r _).mono ?_);rintro e y2 ⟨rfl,v⟩)
   |(go_at_call 245;(with_reducible refine (f _).mono ?_);rintro e y3 ⟨rfl,k⟩))
 all_goals
  go_wp2;go_ret2;subst v;first
   |exact ⟨rfl,ai (ai g.out j) k⟩
   |exact ⟨rfl,ai (ai (ai g.out (aM (ak _ none))) j) k⟩
def TM (ag m s:Lb)(b:ag.length=32)(hm:m.length<=2000)(j:s.length<=2000):
 ∃c:Nat,c≠0/\c<=15/\∀w:World,Calls prog 185 #[S ag,S m,S s] w (Grown (JW c (vL ag m s)) w):=by
 unfold vL;by_cases g:m.length<38
 ·rw[av g];exact ⟨4,pm,pm,λw=>Lu w ag m s b (Or.inl g)⟩
 rw[au g];by_cases a:s.length=62
 ·rw[au (by simpa using a)];by_cases d:s.take 6=mU m
  ·rw[au (by simpa using d)];obtain ⟨c,c0,h,f⟩:=H' (jA (kh ag) (((s.drop 6).take 24).take 16)) ([0,0,0,0]++((s.drop 6).take 24).drop 16) (kF m) (s.drop 30) (QP _ _) (by rw[aK,aR,aJ,aR,a];rfl) (by rw[OC m pm];omega) (by rw[aR];omega);refine ⟨c,c0,h,λw=>?_⟩;cases e:unbox (jk (jA (kh ag) (((s.drop 6).take 24).take 16)) ([0,0,0,0]++((s.drop 6).take 24).drop 16) 1) (js (jA (kh ag) (((s.drop 6).take 24).take 16)) ([0,0,0,0]++((s.drop 6).take 24).drop 16) (kF m)) (s.drop 30)with
   |none=>rw[e]at f;exact Lt w ag m s b pm hm a d [] (c:Int) f
   |some t=>rw[e]at f;exact Lt w ag m s b pm hm a d t 0 f
  rw[av d];exact ⟨5,pm,pm,λw=>Uc w ag m s b pm pm a d⟩
 rw[av a];by_cases i:s.length<62
 ·exact ⟨4,pm,pm,λw=>Lu w ag m s b (Or.inr i)⟩
 exact ⟨5,pm,pm,λw=>Ud w ag m s b pm pm⟩
end
end Go.Proofs.YtmomfbkpniblgaaGreatDoor
