/- A part of this claim's proof. -/
import Derived.Test.YtmomfbkpniblgaaGreatDoorYj04
import Derived.Test.YtmomfbkpniblgaaGreatDoorYj05
import Derived.Deep.RegionWith
import Derived.Deep.DrawnRows
set_option linter.all false
set_option maxHeartbeats 8000000
set_option maxRecDepth 20000
namespace Go.Proofs.YtmomfbkpniblgaaGreatDoor
open Go.Proofs.Tryz
variable {l:Ln}{B:Nat}{w:World}
section
open Go.RowKit
attribute [local go_sem↓] Go.wp_at_zero Go.wp_at_succ
def dg(n:Nat):Value:=ay n
def jU(l:Ln):Value:= .agg (l.map dg).toArray
def WB(w:World)(B:Nat)(l:Ln):Prop:=w.heap[B]?=some (.cells (l.map dg).toArray 335 (0,0))
def Small(l:Ln):Prop:=∀i,l.getD i 0<4294967296
def rF(a b c d:Nat)(l:Ln):Ln:=
 let q:=po (l.getD a 0,l.getD b 0,l.getD c 0,l.getD d 0)
 (((l.set a q.1).set b q.2.1).set c q.2.2.1).set d q.2.2.2
def WB.cell (h:WB w B l)(i:Nat)(a:i<l.length):w.cell? ⟨B,i,none⟩=some (ay (l.getD i 0:Nat)):=by rw[cK h];simp[dg,List.getD,aW a]
def WB.frozen (h:WB w B l)(i:Nat):w.frozen? ⟨B,i,none⟩=false:=nV h i
def WB.set (h:WB w B l)(i n:Nat):WB (w.setCell ⟨B,i,none⟩ (ay n)) B (l.set i n):=by unfold WB;rw[jQ h,pP];simp[dg]
def WB.kept {w'}{r:Option Nat}(h:WB w B l)(g:w.grownBy w' r)(a:some B≠r):WB w' B l:=rv g h a
def Dx {x}{p:Addr}{v:Value}(h:w.drew.grownBy x none)(b:w.cell? p=some v):x.cell? p=some v:=h.cell (a:=p) b pu
def Mj w (B:Nat) l (a b c d:Nat)(k:WB w B l)(I:l.length=16)(n:Small l)(ha:a<16)(hb:b<16)(hc:c<16)(hd:d<16)(a0:a≠b)(a1:a≠c)(a2:a≠d)(a3:b≠c)(a4:b≠d)(a5:c≠d):
 Calls prog 281 #[ar a,ar b,ar c,ar d,dy B 0] w λe o=>e= .returned (.tuple #[])/\WB o B (rF a b c d l)/\w.grownBy o (some B):=by
 have u:=k.cell a pm;have v:=k.cell b pm;have z:=k.cell c pm;have C:=k.cell d pm;have J:=n a;have P:=n b;have R:=n c;have U:=n d;have HQ:=Hq (rfl:rF a b c d l=rF a b c d l);obtain ⟨f,q⟩:∃y,y=l.getD a 0:=⟨_,rfl⟩;obtain ⟨g,r⟩:∃y,y=l.getD b 0:=⟨_,rfl⟩;obtain ⟨h,s⟩:∃y,y=l.getD c 0:=⟨_,rfl⟩;obtain ⟨i,t⟩:∃y,y=l.getD d 0:=⟨_,rfl⟩;have p:rF a b c d l=(((l.set a (po (f,g,h,i)).1).set b (po (f,g,h,i)).2.1).set c (po (f,g,h,i)).2.2.1).set d (po (f,g,h,i)).2.2.2:=by rw[q,r,s,t];rfl
 rw[<-q]at u J;rw[<-r]at v P;rw[<-s]at z R;rw[<-t]at C U;clear q r s t HQ;have A:∀W:World,Calls prog 282 #[ay f,ay g,ay h,ay i] W λe o=>e= .returned (R4 (po (f,g,h,i)))/\W.grownBy o none:=λW=>We W f g h i J P R U;generalize po (f,g,h,i)=Z at*;obtain ⟨za,zb,zc,zd⟩:=Z;simp only at p;unfold R4 at A;rw[p];clear p n;have Hl:=Hq I;clear I;have ia:(0:Int)<=(a:Int):=pm
 have ib:(0:Int)<=(b:Int):=pm
 have ic:(0:Int)<=(c:Int):=pm
 have a6:(0:Int)<=(d:Int):=pm
 have ja:(a:Int)<16:=pm
 have jb:(b:Int)<16:=pm
 have jc:(c:Int)<16:=pm
 have jd:(d:Int)<16:=pm
 go_enter func281,ntmps281;go_wp2_with fail;go_region_with (first
  |(go_at_call 282;(with_reducible refine (A _).mono ?_);rintro e x ⟨rfl,j⟩;have m:=(k.kept (aM (ak w none)) pu).kept j pu;have fa:=m.frozen a;have fb:=m.frozen b;have fc:=m.frozen c;have fd:=m.frozen d;have ga:=Dx j u;have gb:=Dx j v;have gc:=Dx j z;have gd:=Dx j C))
 all_goals
  go_wp2;go_end0;refine ⟨rfl,?_,?_⟩
  ·exact (((m.set a za).set b zb).set c zc).set d zd
  exact aw (aw (aw (aw (ai (aM (ak w _)) (eo j)) _ _) _ _) _ _) _ _
end
end Go.Proofs.YtmomfbkpniblgaaGreatDoor
