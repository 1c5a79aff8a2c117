/- A part of this claim's proof. -/
import Derived.Test.YtmomfbkpniblgaaGreatDoorYj20
set_option linter.all false
set_option maxHeartbeats 2000000
set_option maxRecDepth 100000
namespace Go.Proofs.YtmomfbkpniblgaaGreatDoor
open Go.Proofs.Tryz
variable {chain:Lb}{n ae:Nat}{w:World}
section
open Go.RowKit
def mu(ae:Nat)(hash chain key:Lb)(n:Nat):Lv:=[hJ ae,S hash,S chain,S key, .int .u64 n]
def bj(w:World)(b ae:Nat)(hash chain key:Lb)(n:Nat):Prop:=ab w b 310 (mu ae hash chain key n)
def bj.kept {w'}{b:Nat}{hash key}{r:Option Nat}(h:bj w b ae hash chain key n)(g:w.grownBy w' r)(a:some b≠r):bj w' b ae hash chain key n:=ab.kept h g a
def bj.cells {b:Nat}{hash key}(h:bj w b ae hash chain key n):
 w.cell? ⟨b,0,none⟩=some (hJ ae)/\w.cell? ⟨b,1,none⟩=some (S hash)/\w.cell? ⟨b,2,none⟩=some (S chain)/\w.cell? ⟨b,3,none⟩=some (S key)/\w.cell? ⟨b,4,none⟩=some (.int .u64 n):=
 ⟨ab.cell h 0,ab.cell h 1,ab.cell h 2,ab.cell h 3,ab.cell h 4⟩
def CS w:Calls prog 311 #[.agg #[]] w (Grown (.int .i64 1) w):=by go_enter func311,ntmps311;go_wp2;go_ret;exact ⟨rfl,aT _ _ _⟩
def CU w:Calls prog 315 #[.agg #[]] w (Grown (.int .i64 2) w):=by go_enter func315,ntmps315;go_wp2;go_ret;exact ⟨rfl,aT _ _ _⟩
def kx(w:World)(b ae:Nat)(hash chain key:Lb)(n:Nat)(e:Ending)(a:World):Prop:=e= .returned (.tuple #[])/\bj a b ae hash chain key n/\w.grownBy a (some b)
def ie:hJ 1= .iface 356 (.agg #[]):=rfl
def ig:hJ 2= .iface 357 (.agg #[]):=rfl
def zN w (b:Nat)(hash chain key a:Lb)(n:Nat)(h:bj w b 1 hash chain key n)(x:hash.length<=32)(y:a.length<=9223372036854774000):
 Calls prog 268 #[.pointer (some ⟨b,0,none⟩),S a] w (kx w b 1 (cx 1 (hash++a)) chain key n):=by
 have g:∀W:World,Calls prog 91 #[.int .i64 1,S (hash++a)] W (Grown (.tuple #[S (cx 1 (hash++a)), .int .i64 0]) W):=λW=>CV W 1 ut (hash++a) (by rw[aK];omega);have i:=CS;obtain ⟨c0,c1,j,k,l⟩:=h.cells;have I:=ab.frozen h 1;have H:=Hq h;unfold kx;generalize cx 1 (hash++a)=V at*;have P:hash.length+a.length<=9223372036854775807:=pm
 have R:¬(9223372036854775807<hash.length+a.length):=pm
 have U:=eD;rw[ie]at c0;clear j k l h x y;unfold S at*;go_enter func268,ntmps268;go_wp2_with fail;go_region_with (first
  |(go_at_call 311;(with_reducible refine (i _).mono ?_);rintro e x1 ⟨rfl,d⟩;have H1:bj x1 b 1 hash chain key n:=ab.kept (ab.drew H.out) d nofun;obtain ⟨m,o,p,q,z⟩:=H1.cells;unfold S at o p q;rw[ie]at m)
  |(go_at_call 91;(with_reducible refine (g _).mono ?_);rintro e x2 ⟨rfl,f⟩;have c:bj x2 b 1 hash chain key n:=ab.kept H1 f nofun;obtain ⟨r,s,t,u,C⟩:=c.cells;unfold S at s t u;have J:=ab.frozen c 1;rw[ie]at r))
 all_goals
  have v:w.grownBy (x2.setCell ⟨b,1,none⟩ (.string ⟨V.toArray⟩)) (some b):=aw (eo (ai (ai (aM (ak _ none)) d) f)) 1 _;go_wp2;go_end0;exact ⟨rfl,ab.set c 1 (.string ⟨V.toArray⟩),v⟩
def zO w (b:Nat)(hash chain key a:Lb)(n:Nat)(h:bj w b 2 hash chain key n)(x:hash.length<=32)(y:a.length<=9223372036854774000):
 Calls prog 268 #[.pointer (some ⟨b,0,none⟩),S a] w (kx w b 2 (cx 2 (hash++a)) chain key n):=by
 have g:∀W:World,Calls prog 91 #[.int .i64 2,S (hash++a)] W (Grown (.tuple #[S (cx 2 (hash++a)), .int .i64 0]) W):=λW=>CV W 2 ut (hash++a) (by rw[aK];omega);have i:=CU;obtain ⟨c0,c1,j,k,l⟩:=h.cells;have I:=ab.frozen h 1;have H:=Hq h;unfold kx;generalize cx 2 (hash++a)=V at*;have P:hash.length+a.length<=9223372036854775807:=pm
 have R:¬(9223372036854775807<hash.length+a.length):=pm
 have U:=eD;rw[ig]at c0;clear j k l h x y;unfold S at*;go_enter func268,ntmps268;go_wp2_with fail;go_region_with (first
  |(go_at_call 315;(with_reducible refine (i _).mono ?_);rintro e x1 ⟨rfl,d⟩;have H1:bj x1 b 2 hash chain key n:=ab.kept (ab.drew H.out) d nofun;obtain ⟨m,o,p,q,z⟩:=H1.cells;unfold S at o p q;rw[ig]at m)
  |(go_at_call 91;(with_reducible refine (g _).mono ?_);rintro e x2 ⟨rfl,f⟩;have c:bj x2 b 2 hash chain key n:=ab.kept H1 f nofun;obtain ⟨r,s,t,u,C⟩:=c.cells;unfold S at s t u;have J:=ab.frozen c 1;rw[ig]at r))
 all_goals
  have v:w.grownBy (x2.setCell ⟨b,1,none⟩ (.string ⟨V.toArray⟩)) (some b):=aw (eo (ai (ai (aM (ak _ none)) d) f)) 1 _;go_wp2;go_end0;exact ⟨rfl,ab.set c 1 (.string ⟨V.toArray⟩),v⟩
def Vw w (b ae:Nat)(e:ae=1\/ae=2)(hash chain key a:Lb)(n:Nat)(h:bj w b ae hash chain key n)(c:hash.length<=32)(d:a.length<=9223372036854774000):
 Calls prog 268 #[.pointer (some ⟨b,0,none⟩),S a] w (kx w b ae (cx ae (hash++a)) chain key n):=by
 rcases e with rfl|rfl
 ·exact zN w b hash chain key a n h c d
 exact zO w b hash chain key a n h c d
def gI(ae:Nat)(chain a:Lb):Lb:=jP ae (fI ae chain a) 1
def fM(ae:Nat)(chain a:Lb):Lb:=jP ae (fI ae chain a) 2
def uD(ae:Nat)(chain a:Lb):Lb:=jP ae (fI ae chain a) 3
def DW (ae:Nat) chain text:kH ae (fI ae chain text) 2=[gI ae chain text,fM ae chain text]:=rfl
def Px (ae:Nat) chain text:kH ae (fI ae chain text) 3=[gI ae chain text,fM ae chain text,uD ae chain text]:=rfl
def DP (ae:Nat) chain text:(gI ae chain text).length=32:=wm _ _ _
def Ao (ae:Nat) chain text:(fM ae chain text).length=32:=wm _ _ _
def j9 (ae:Nat) chain text:(uD ae chain text).length=32:=wm _ _ _
def Vx w (b:Nat)(hash chain key a:Lb)(n:Nat)(h:bj w b 1 hash chain key n)(hh:chain.length<=32)(ht:a.length<=9223372036854774000):
 Calls prog 269 #[.pointer (some ⟨b,0,none⟩),S a] w (kx w b 1 hash (gI 1 chain a) (fM 1 chain a) 0):=by
 have d:∀W:World,Calls prog 37 #[.int .i64 1,S chain,S a, .int .i64 2] W (pR (kH 1 (fI 1 chain a) 2) W):=λW=>uf W 1 ut chain a 2 pm pm pm pm;rw[DW]at d;have l:=CS;obtain ⟨c0,c1,P,R,U⟩:=h.cells;have H:=Hq h;unfold kx;generalize gI 1 chain a=m at*;generalize fM 1 chain a=o at*;rw[ie]at c0;clear c1 R U h hh ht;unfold S at*;go_enter func269,ntmps269;go_wp2_with fail;go_region_held3 (λW=>W.cell? ⟨b,0,none⟩=some (.iface 356 (.agg #[]))/\W.cell? ⟨b,2,none⟩=some (.string ⟨chain.toArray⟩)) (first|exact ⟨c0,P⟩|exact ⟨p,q⟩|exact ⟨x,y⟩) (first
  |(go_at_call 311;(with_reducible refine (l _).mono ?_);rintro e x1 ⟨rfl,i⟩;have H1:bj x1 b 1 hash chain key n:=ab.kept (ab.drew H.out) i nofun;obtain ⟨p,d1,q,d3,d4⟩:=H1.cells;unfold S at d1 q d3;rw[ie]at p)
  |(go_at_call 37;(with_reducible refine (d _).mono ?_);rintro e x2 ⟨v,rfl,k,j⟩;have c:bj x2 b 1 hash chain key n:=ab.kept H1 j nofun;obtain ⟨x,m1,y,m3,m4⟩:=c.cells;unfold S at m1 y m3;rw[ie]at x))
 all_goals
  obtain ⟨g,a0,hv,a1,a2,a3,a4,f⟩:=wL k pu;have t:=Es k c ut;subst hv;have a5:g≠b:=λe=>t (by rw[e];rfl);have l0:=f 0 pu;have l1:=f 1 pu;obtain ⟨e0,e1,e2,e3,e4⟩:=c.cells;have f2:=ab.frozen c 2;have f3:=ab.frozen c 3;have f4:=ab.frozen c 4;have s:=ai (ai (aM (ak w none)) i) j;have C:=Hq s;have I:=Hq c;clear k f t i j s c e0 e1 l d;unfold S at*;go_wp2_with fail;go_region
 all_goals
  have u:=ab.drew (ab.set (ab.set (ab.set I.out 2 (.string ⟨m.toArray⟩)) 3 (.string ⟨o.toArray⟩)) 4 (.int .u64 0));have J:=Hq u;have z:=Hq (aM (aw (aw (aw (eo (r:=some b) C.out) 2 (.string ⟨m.toArray⟩)) 3 (.string ⟨o.toArray⟩)) 4 (.int .u64 0)));clear u;go_wp2;go_end0;exact ⟨rfl,J.out,z.out⟩
def Vy w (b:Nat)(hash chain key a:Lb)(n:Nat)(h:bj w b 2 hash chain key n)(hh:chain.length<=32)(ht:a.length<=9223372036854774000):
 Calls prog 269 #[.pointer (some ⟨b,0,none⟩),S a] w (kx w b 2 hash (gI 2 chain a) (fM 2 chain a) 0):=by
 have d:∀W:World,Calls prog 37 #[.int .i64 2,S chain,S a, .int .i64 2] W (pR (kH 2 (fI 2 chain a) 2) W):=λW=>uf W 2 ut chain a 2 pm pm pm pm;rw[DW]at d;have l:=CU;obtain ⟨c0,c1,P,R,U⟩:=h.cells;have H:=Hq h;unfold kx;generalize gI 2 chain a=m at*;generalize fM 2 chain a=o at*;rw[ig]at c0;clear c1 R U h hh ht;unfold S at*;go_enter func269,ntmps269;go_wp2_with fail;go_region_held3 (λW=>W.cell? ⟨b,0,none⟩=some (.iface 357 (.agg #[]))/\W.cell? ⟨b,2,none⟩=some (.string ⟨chain.toArray⟩)) (first|exact ⟨c0,P⟩|exact ⟨p,q⟩|exact ⟨x,y⟩) (first
  |(go_at_call 315;(with_reducible refine (l _).mono ?_);rintro e x1 ⟨rfl,i⟩;have H1:bj x1 b 2 hash chain key n:=ab.kept (ab.drew H.out) i nofun;obtain ⟨p,d1,q,d3,d4⟩:=H1.cells;unfold S at d1 q d3;rw[ig]at p)
  |(go_at_call 37;(with_reducible refine (d _).mono ?_);rintro e x2 ⟨v,rfl,k,j⟩;have c:bj x2 b 2 hash chain key n:=ab.kept H1 j nofun;obtain ⟨x,m1,y,m3,m4⟩:=c.cells;unfold S at m1 y m3;rw[ig]at x))
 all_goals
  obtain ⟨g,a0,hv,a1,a2,a3,a4,f⟩:=wL k pu;have t:=Es k c ut;subst hv;have a5:g≠b:=λe=>t (by rw[e];rfl);have l0:=f 0 pu;have l1:=f 1 pu;obtain ⟨e0,e1,e2,e3,e4⟩:=c.cells;have f2:=ab.frozen c 2;have f3:=ab.frozen c 3;have f4:=ab.frozen c 4;have s:=ai (ai (aM (ak w none)) i) j;have C:=Hq s;have I:=Hq c;clear k f t i j s c e0 e1 l d;unfold S at*;go_wp2_with fail;go_region
 all_goals
  have u:=ab.drew (ab.set (ab.set (ab.set I.out 2 (.string ⟨m.toArray⟩)) 3 (.string ⟨o.toArray⟩)) 4 (.int .u64 0));have J:=Hq u;have z:=Hq (aM (aw (aw (aw (eo (r:=some b) C.out) 2 (.string ⟨m.toArray⟩)) 3 (.string ⟨o.toArray⟩)) 4 (.int .u64 0)));clear u;go_wp2;go_end0;exact ⟨rfl,J.out,z.out⟩
end
end Go.Proofs.YtmomfbkpniblgaaGreatDoor
