/- A part of this claim's proof. -/
import Derived.Test.YtmomfbkpniblgaaGreatDoorYj18
import Derived.Deep.DrawnRows
import Derived.Test.YtmomfbkpniblgaaGreatDoorYj02
import Derived.Test.YtmomfbkpniblgaaGreatDoorYj19
set_option linter.all false
set_option maxHeartbeats 1000000
namespace Go.Proofs.YtmomfbkpniblgaaGreatDoor
open Go.Proofs.Tryz
variable {len:Nat}{w:World}
section
open Go.RowKit
attribute [local go_sem↓] Go.wp_at_zero Go.wp_at_succ
def W8 (a n p q s g h i e f:Nat)(z:N3 a= .agg #[.int .u64 p, .int .u64 q, .int .u64 s])(C:N3 n= .agg #[.int .u64 g, .int .u64 h, .int .u64 i])
 (U:a+n<6277101735386680763835789423207666416102355444464034512896) (h0:e<18446744073709551616) (h1:f<18446744073709551616):
 ∃k m r l o t:Nat,N3 (tr (a+n) (e+18446744073709551616*f))= .agg #[.int .u64 l, .int .u64 o, .int .u64 t]/\
  (∀W:World,Calls prog 93 #[.agg #[.int .u64 p, .int .u64 q, .int .u64 s], .agg #[.int .u64 g, .int .u64 h, .int .u64 i]] W (Grown (.agg #[.int .u64 k, .int .u64 m, .int .u64 r]) W))/\
  (∀W:World,Calls prog 94 #[.agg #[.int .u64 k, .int .u64 m, .int .u64 r], .agg #[.int .u64 e, .int .u64 f]] W (Grown (.agg #[.int .u64 l, .int .u64 o, .int .u64 t]) W)):=by
 obtain ⟨b,c,d,u,v,x⟩:∃b c d:Nat,b=(a+n)%18446744073709551616/\c=(a+n)/18446744073709551616%18446744073709551616/\d=(a+n)/18446744073709551616/18446744073709551616%18446744073709551616:=⟨_,_,_,rfl,rfl,rfl⟩;have I:a+n=b+18446744073709551616*c+340282366920938463463374607431768211456*d:=pm
 have y:N3 (a+n)= .agg #[.int .u64 b, .int .u64 c, .int .u64 d]:=by rw[u,v,x];rfl
 obtain ⟨J,P,R,j⟩:=pT (tr (a+n) (e+18446744073709551616*f));refine ⟨b,c,d,J,P,R,j,λW=>?_,λW=>?_⟩
 ·have:=sH W a n;rwa[z,C,y]at this
 have:=Wb W 0 0 b c d e f pm pm pm h0 h1;rwa[<-I,j]at this
end
section
open Go.RowKit
def Q' {x:Addr}{k:IntKind}(h:∀i,i<len->∀(j:Nat) (q:Lk),[Lk.int k][j]?=some q->∃v,w.cell? (x.add (i*[Lk.int k].length+j))=some v/\Fj q v):
 ∃f:Nat->Int,∀i,i<len->w.cell? (x.add i)=some (.int k (f i))/\(Lit.int k (f i)).wf=true:=by
 have b:∀i,i<len->∃n:Int,w.cell? (x.add i)=some (.int k n)/\(Lit.int k n).wf=true:=by intro i a;obtain ⟨v,c,n,rfl,d⟩:=h i a 0 _ rfl;exact ⟨n,by simpa using c,d⟩
 exact ⟨λi=>if a:i<len then Classical.choose (b i a)else 0,λi a=>by simp only[dif_pos a];exact Classical.choose_spec (b i a)⟩
def qW(k:IntKind)(w:World)(a:Option Addr)(len:Nat)(f:Nat->Int):Prop:=
 ∀i,i<len->∃x,a=some x/\w.cell? (x.add i)=some (.int k (f i))/\(Lit.int k (f i)).wf=true
def Za {k:IntKind}{a:Option Addr}{b:Nat}(h:IsRecs [.int k] w a len b):(len<=b/\b<=maxLen)/\∃f,qW k w a len f:=by
 rcases h with⟨rfl,rfl,rfl⟩|⟨x,rfl,d,e,g⟩
 ·exact ⟨⟨bm _,fE _⟩,λ_=>0,λi c=>absurd c (xk _)⟩
 obtain ⟨f,j⟩:=Q' g;exact ⟨⟨d,e⟩,f,λi c=>⟨x,rfl,j i c⟩⟩
def qW.kept {k:IntKind}{w'}{r:Option Nat}{a:Option Addr}{f:Nat->Int}(h:qW k w a len f)(g:w.grownBy w' r)(e:∀x,a=some x->some x.block≠r):qW k w' a len f:=by
 intro i d;obtain ⟨x,b,c,j⟩:=h i d;refine ⟨x,b,g.cell c ?_,j⟩;have:(x.add i).block=x.block:=by unfold Addr.add;split<;>rfl
 rw[this];exact e x b
def qW.aN {k:IntKind}{x:Addr}{f:Nat->Int}(h:qW k w (some x) len f)(i:Nat)(b:i<len):x.block<w.heap.size:=by
 obtain ⟨y,c,a,_⟩:=h i b;cases c;have:=rS w _ a;have e:(x.add i).block=x.block:=by unfold Addr.add;split<;>rfl
 omega
def abX (w:World)(o1 o2:Obj):((w.alloc o1).alloc o2).heap[w.heap.size]?=some o1/\((w.alloc o1).alloc o2).heap[w.heap.size+1]?=some o2:=by
 refine ⟨cG (aO w o1),?_⟩;have:=aO (w.alloc o1) o2;have e:(w.alloc o1).heap.size=w.heap.size+1:=pu
 rw[e]at this;exact this
def lG(l:Lb):Int:=wrap64 (IntKind.u64.wrap ((aV (l.take 8):Int)-4611686018427387904))
def lE(l:Lb):Int:=wrap64 (aV ((l.drop 8).take 4):Int)
def t0:Value:= .tuple #[.agg #[.int .i64 0, .int .i64 0], .int .i64 5]
def t1(l:Lb):Value:= .tuple #[.agg #[.int .i64 (lG l), .int .i64 (lE l)], .int .i64 0]
def QL w (l:Lb)(h:l.length=12):Calls prog 239 #[S l] w λe x=>
 e= .returned (if nT (lG l) (lE l)=true then t1 l else t0)/\w.grownBy x none:=by
 have U:(12:Int)<=(l.length:Int):=pm
 have i1:(8:Int)<=(l.length:Int):=pm
 have i2:(l.length:Int)<=12:=pm
 have i3:¬l.length<12:=pm
 clear h;unfold S;have b:∃s,s=lG l:=⟨_,rfl⟩;have a:∃n,n=lE l:=⟨_,rfl⟩;obtain ⟨s,b⟩:=b;obtain ⟨n,a⟩:=a;have g:=Hq b;have f:=Hq a;rw[<-b,<-a];clear b a;cases hT:nT s n;all_goals
  have i:=Hq hT;clear hT;go_enter func239,ntmps239;go_wp2_with fail
 all_goals
  go_region_with
   (first
    |(go_at_call 247;(refine (acx _ _ ?_).mono ?_);(simp[ByteArray.size];try omega);rintro e x2 ⟨rfl,rfl⟩))
 all_goals
  go_wp2_with fail;refine ax (QK _ _ _) λx3 d=>?_;have c:=i.out;rw[g.out,f.out]at c;unfold lG lE at c;rw[c];have j:=abX w (.cells #[.int .i64 0, .int .i64 0] 119) (.cells #[.int .i64 (wrap64 (IntKind.u64.wrap ((aV (l.take 8):Int)-4611686018427387904))), .int .i64 (wrap64 (aV ((l.drop 8).take 4):Int))] 119);have o1:=rv (k:=w.heap.size) d j.1 pu;have o2:=rv (k:=w.heap.size+1) d j.2 pu;have c0:x3.cell? ⟨w.heap.size,0,none⟩=some (.int .i64 0):=by rw[cK o1];rfl
  have c1:x3.cell? ⟨w.heap.size,1,none⟩=some (.int .i64 0):=by rw[cK o1];rfl
  have z:x3.cell? ⟨w.heap.size+1,0,none⟩=some (.int .i64 (wrap64 (IntKind.u64.wrap ((aV (l.take 8):Int)-4611686018427387904)))):=by rw[cK o2];rfl
  have C:x3.cell? ⟨w.heap.size+1,1,none⟩=some (.int .i64 (wrap64 (aV ((l.drop 8).take 4):Int))):=by rw[cK o2];rfl
  have I:=nV o1 0;have J:=nV o1 1;have P:=nV o2 0;have R:=nV o2 1;have m:∀v,(x3.setCell ⟨w.heap.size,0,none⟩ v).cell? ⟨w.heap.size,0,none⟩=some v:=λv=>by rw[cK (jQ o1 0 v)];rfl
  have o:∀u v,((x3.setCell ⟨w.heap.size,0,none⟩ u).setCell ⟨w.heap.size,1,none⟩ v).cell? ⟨w.heap.size,1,none⟩=some v:=λu v=>by rw[cK (jQ (jQ o1 0 u) 1 v)];rfl
  have p:∀u v,((x3.setCell ⟨w.heap.size,0,none⟩ u).setCell ⟨w.heap.size,1,none⟩ v).cell? ⟨w.heap.size,0,none⟩=some u:=λu v=>by rw[cK (jQ (jQ o1 0 u) 1 v)];rfl
  have t:w.grownBy x3 none:=ai (aM (aF (aF (ak _ _) _) _)) d;clear j o1 o2 c d;go_wp2_with fail;have y:=Hq m;have q:=Hq o;have r:=Hq p;clear m o p;refine bodyPost_ret (by simp[results,results239,go_sem,q.out,r.out];try rfl) rfl ?_;refine ⟨?_,cj (cj t _ pu _) _ pu _⟩;first
   |rfl
   |(rw[au (by rw[i.out];simp)];rfl)
   |(rw[av i.out,t1,<-g.out,<-f.out,g.out,f.out];rfl)
end
end Go.Proofs.YtmomfbkpniblgaaGreatDoor
