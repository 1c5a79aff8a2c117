/- A part of this claim's proof. -/
import Derived.Test.YtmomfbkpniblgaaGreatDoorYj05
set_option linter.all false
set_option maxHeartbeats 1000000
namespace Go.Proofs.YtmomfbkpniblgaaGreatDoor
open Go.Proofs.Tryz
section
open Go.RowKit
def cH(a b:Lb):Lb:=List.zipWith (·^^^·) a b
def oq a b:(cH a b).length=min a.length b.length:=wZ
def vF(v:Value)(w:World)(e:Ending)(a:World):Prop:=e= .returned v/\w.grownBy a none
def EH (c d:UInt8):bits .xor .u8 (c.toNat:Int) (d.toNat:Int)=((c^^^d).toNat:Int):=by rw[xw _ _ (iO c) (iO d),xj]
def part(X:Lb)(n j:Nat):Lv:=(X.take j).map aS++List.replicate (n-j) (aB 0)
def J7 X (n:Nat):part X n 0=List.replicate n (aB 0):=by simp[part]
def J5 (X:Lb)(n:Nat)(h:X.length=n):part X n n=X.map aS:=by unfold part;rw[cE pm,il];simp
def J6 (X:Lb)(n j:Nat)(h:X.length=n)(a:j<n):(part X n j).set j (aS (X[j]'(pm)))=part X n (j+1):=by
 unfold part;have h1:((X.take j).map aS).length=j:=pp
 rw[kp j _ pm,h1,il,show n-j=(n-(j+1))+1from pm,Bx,iD,
  fP pm,jW,dM]
 rfl
def EF w (a b:Lb)(ha:a.length<=140737488355328)(hb:b.length<=140737488355328):
 Calls prog 202 #[S a,S b] w (vF (S (cH a b)) w):=by
 obtain ⟨P,z,C,I,J⟩:=mF Ag;obtain ⟨n,g,na,nb,p,q⟩:∃n:Nat,n=min a.length b.length/\n<=a.length/\n<=b.length/\(if b.length<a.length then(b.length:Int)else(a.length:Int))=(n:Int)/\min (a.length:Int) (b.length:Int)=(n:Int):=⟨_,rfl,pm,pm,by split<;>omega,pm⟩;have u:(cH a b).length=n:=by rw[oq,g]
 have d:=Hq u;clear u;have U:=Hq g;clear g;unfold S;go_enter func202,ntmps202;go_wp2_with (at_make;refine wpList_make_full _ rfl _ _ 83 rfl w.heap.size 5 P (aB 0) 1 underlying83 z C I .i64 .i64 _ _ n rfl rfl (by first|exact p|exact q|rfl) (by first|exact p|exact q|rfl) (by rw[J];omega) (by unfold maxLen;omega) (bm _) ?_);intro R c e;go_wp2_with fail;have s:R.ownsRow w.heap.size 5 1 (.slice (some ⟨w.heap.size,0,none⟩) n n) n (part (cH a b) n 0):=by rw[J7,<-toList_madeCells_one];simpa using c
 clear c;go_loopw [15] (λl wr=>∃j:Nat,j<=n/\l=ar j/\wr.ownsRow w.heap.size 5 1 (.slice (some ⟨w.heap.size,0,none⟩) n n) n (part (cH a b) n j)/\w.grownBy wr none) (λl _=>n-(intOf l).toNat)
 case atStart=>exact ⟨0,pm,rfl,s,e⟩
 case round=>
  clear s e;obtain ⟨j,hj,rfl,c,e⟩:=hrel;by_cases f:j<n
  ·have a0:=c.frozenAt j;have r:=c.stored j (aS ((cH a b)[j]'(by rw[d.out];exact f)));rw[J6 _ _ _ d.out f]at r;obtain ⟨i,k⟩:=r;have ja:j<a.length:=pm;have jb:j<b.length:=pm;have t:(cH a b)[j]'(by rw[d.out];exact f)=a[j]^^^b[j]:=(by simp[cH]);rw[t]at i k;have x:=c.cellAt j pm;have o:(part (cH a b) n j)[j]?=some (aB 0):=by unfold part;have h1:(((cH a b).take j).map aS).length=j:=(by rw[cY,aJ,d.out];omega);rw[qI pm,List.getElem?_replicate,av pm]
   rw[o]at x;have m:aS (a[j]^^^b[j])=aB (a[j].toNat^^^b[j].toNat:Nat):=by unfold aS;rw[xj]
   rw[m]at i k;have hA:∀h,(ByteArray.mk a.toArray)[j]'h=a[j]:=λh=>rfl;have hB:∀h,(ByteArray.mk b.toArray)[j]'h=b[j]:=λh=>rfl;have hx:=EH a[j] b[j];clear o t m;go_wp2_with fail;go_region;go_wp2;go_roundw
   case rel=>exact ⟨j+1,pm,by go_num,i,aM (cJ e k (bm _))⟩
   case measure=>simp[intOf];omega
  obtain rfl:j=n:=pm
  have v:dq wr w.heap.size (.slice (some ⟨w.heap.size,0,none⟩) j j) (cH a b):=by unfold dq;rw[d.out];rw[J5 _ _ d.out]at c;exact c
  have y:=jL v;unfold S at y;go_wp2;go_ret;exact ⟨rfl,e⟩
end
end Go.Proofs.YtmomfbkpniblgaaGreatDoor
