/- A part of this claim's proof. -/
import Derived.Test.YtmomfbkpniblgaaGreatDoorYj04
import Derived.RegionTactic
import Derived.ChangeAlike
import Derived.Laws.BitsAllLaws
set_option linter.all false
set_option maxHeartbeats 400000
namespace Go.Proofs.YtmomfbkpniblgaaGreatDoor
open Go.Proofs.Tryz
variable {m:Nat}
section
open Go.RowKit
def gH(w:World)(b:Nat)(next:Int)(m:Nat):Prop:=
 w.heap[b]?=some (.cells #[ar next,cM m] 377 (0,0))
def gH.cells {w}{b:Nat}{next:Int}(h:gH w b next m):
 w.cell? ⟨b,0,none⟩=some (ar next)/\w.cell? ⟨b,1,none⟩=some (cM m)/\w.frozen? ⟨b,0,none⟩=false/\w.frozen? ⟨b,1,none⟩=false:=by
 unfold gH at h;refine ⟨?_,?_,?_,?_⟩<;>simp[World.cell?,World.frozen?,h]
def gH.kept {a b}{r:Option Nat}{k:Nat}{n:Int}(h:gH a k n m)(g:a.grownBy b r)(c:some k≠r):gH b k n m:=rv g h c
def acr w:Calls prog 274 #[] w λe a=>e= .returned (dy w.heap.size 0)/\gH a w.heap.size 0 0/\w.grownBy a none:=by go_enter func274,ntmps274;go_wp2;go_ret;exact ⟨rfl,aO _ _,aF (ak _ _) _⟩
def wQ w (b:Nat)(next:Int)(m:Nat)(n:Int)(h:gH w b next m)(h0:0<=next)(h1:next<=1099511627777)(hm:m<18446744073709551616)(d:(Lit.int .i64 n).wf=true):
 Calls prog 275 #[dy b 0,ar n] w λe g=>e= .returned (ar (gu next m n))/\w.grownBy g none:=by
 obtain ⟨c0,c1,p,q⟩:=h.cells;have k:=bounds_i64 d;clear d;by_cases c:n<0\/1099511627776<n
 ·go_enter func275,ntmps275;go_wp2;all_goals
   go_ret;refine ⟨pq ?_,ak _ _⟩;rw[gu,av c]
 have i:0<=n:=pm
 have j:n<=1099511627776:=pm
 have l:decide (n<0)=false:=pp
 have o:decide (1099511627776<n)=false:=pp
 clear c;go_enter func275,ntmps275;go_wp2;all_goals
  go_ret;refine ⟨pq ?_,ak _ _⟩;rw[gu,au pm]
 ·rw[av jp]
 ·have f:next-1-n<64:=jp
  have a:64<=next-1-n\/(bits .and .u64 (↑m/2^(next-1-n).toNat) 1==1)=true:=jp
  rw[Rc m _ hm pm]at a;rw[au pm,av a]
 ·have f:next-1-n<64:=jp
  have a:next-1-n<64/\(bits .and .u64 (↑m/2^(next-1-n).toNat) 1==1)=false:=jp
  rw[Rc m _ hm pm]at a;rw[au pm,au (by rw[a.2];simp;omega)]
 rw[au pm,av (Or.inl jp)]
def acv w (b:Nat)(next:Int)(m:Nat)(n:Int)(h:gH w b next m)(h0:0<=next)(h1:next<=1099511627777)(hm:m<18446744073709551616)(d:(Lit.int .i64 n).wf=true)(a:gu next m n≠0):
 Calls prog 277 #[dy b 0,ar n] w λe f=>e= .returned (ar (gu next m n))/\w.grownBy f none:=by
 have g:(gu next m n==0)=false:=by simpa using a
 clear a;go_enter func277,ntmps277;go_wp2_with fail;refine ax (wQ w b next m n h h0 h1 hm d) λx1 c=>?_;go_wp2;go_ret;exact ⟨rfl,c⟩
def acw w (b:Nat)(next:Int)(m:Nat)(n:Int)(h:gH w b next m)(h0:0<=next)(h1:next<=1099511627777)(hm:m<18446744073709551616)(k:(Lit.int .i64 n).wf=true)(a:gu next m n=0)(j:n<next):
 Calls prog 277 #[dy b 0,ar n] w λe f=>e= .returned (ar 0)/\gH f b next (m|||2^(next-1-n).toNat)/\w.grownBy f (some b):=by
 obtain ⟨u,v⟩:=Bd a;have q:=JT a j;have g:=Hq a;clear a;go_enter func277,ntmps277;go_wp2_with fail;refine ax (wQ w b next m n h h0 h1 hm k) λx1 c=>?_;have d:=h.kept c pu;obtain ⟨c0,c1,s,t⟩:=d.cells;rw[g.out];have l:IntKind.i64.wrap (next-1)=next-1:=dG _ pm;have o:IntKind.i64.wrap (next-1-n)=next-1-n:=dG _ pm;have p:0<=next-1-n:=pm
 have r:next-1-n<=64:=pm
 go_wp2_with fail;go_region;go_wp2;go_ret;have i:bits BinOp.or IntKind.u64 (↑m) (IntKind.u64.wrap (2^(next-1-n).toNat))=((m|||2^(next-1-n).toNat:Nat):Int):=aca m _ hm pm;rw[i];refine ⟨rfl,?_,aM (aw (eo c) _ _)⟩;show(x1.setCell _ _).heap[b]?=_;rw[jQ d];rfl
def acu w (b:Nat)(next:Int)(m:Nat)(n:Int)(h:gH w b next m)(h0:0<=next)(h1:next<=1099511627777)(hm:m<18446744073709551616)(j:(Lit.int .i64 n).wf=true)(g:gu next m n=0)(u:next<=n):
 Calls prog 277 #[dy b 0,ar n] w λe k=>e= .returned (ar 0)/\gH k b (n+1) (nt next m n)/\w.grownBy k (some b):=by
 obtain ⟨x,y⟩:=Bd g;have i:=Hq g;clear g;have p:IntKind.i64.wrap (n+1)=n+1:=dG _ pm;have q:IntKind.i64.wrap (n+1-next)=n+1-next:=dG _ pm;have r:IntKind.i64.wrap (n+1-1)=n:=by rw[dG _ pm];omega
 have s:IntKind.i64.wrap (n-n)=0:=by rw[dG _ pm];omega
 have t:0<=n+1-next:=pm
 by_cases v:n+1-next<=64
 ·go_enter func277,ntmps277;go_wp2_with fail;refine ax (wQ w b next m n h h0 h1 hm j) λx1 a=>?_;have c:=h.kept a pu;obtain ⟨c0,c1,l,o⟩:=c.cells;rw[i.out];go_wp2_with fail;go_region;go_wp2_with fail;go_region;go_wp2;go_ret;have d:bits BinOp.or IntKind.u64 (IntKind.u64.wrap (↑m*2^(n+1-next).toNat)) 1=((nt next m n:Nat):Int):=by rw[nt,show(min (n+1-next) 64).toNat=(n+1-next).toNat from pm];exact EA _ _ pu
  have f:bits BinOp.or IntKind.u64 (IntKind.u64.wrap (↑m*2^(min (n+1-next) 64).toNat)) 1=((nt next m n:Nat):Int):=by rw[nt];exact EA _ _ pu
  first|rw[d]|rw[f]
  refine ⟨rfl,?_,aM (aM (aw (aw (aw (eo a) _ _) _ _) _ _))⟩;show(((x1.setCell _ _).setCell _ _).setCell _ _).heap[b]?=_;rw[jQ (jQ (jQ c _ _) _ _)];rfl
 go_enter func277,ntmps277;go_wp2_with fail;refine ax (wQ w b next m n h h0 h1 hm j) λx1 a=>?_;have c:=h.kept a pu;obtain ⟨c0,c1,l,o⟩:=c.cells;rw[i.out];go_wp2_with fail;go_region;go_wp2_with fail;go_region;go_wp2;go_ret;have d:bits BinOp.or IntKind.u64 (IntKind.u64.wrap (↑m*18446744073709551616)) 1=((nt next m n:Nat):Int):=by rw[nt,show(min (n+1-next) 64).toNat=64from pm];exact EA _ _ pu
 have f:bits BinOp.or IntKind.u64 (IntKind.u64.wrap (↑m*2^(min (n+1-next) 64).toNat)) 1=((nt next m n:Nat):Int):=by rw[nt];exact EA _ _ pu
 first|rw[d]|rw[f]
 refine ⟨rfl,?_,aM (aM (aw (aw (aw (eo a) _ _) _ _) _ _))⟩;show(((x1.setCell _ _).setCell _ _).setCell _ _).heap[b]?=_;rw[jQ (jQ (jQ c _ _) _ _)];rfl
def acs w (b:Nat)(next:Int)(m:Nat)(n:Int)(h:gH w b next m)(h0:0<=next)(h1:next<=1099511627777)(hm:m<18446744073709551616)(d:(Lit.int .i64 n).wf=true):
 Calls prog 277 #[dy b 0,ar n] w λe g=>e= .returned (ar (gu next m n))/\gH g b (jE next m n).1 (jE next m n).2/\w.grownBy g (some b):=by
 unfold jE;by_cases a:gu next m n=0
 ·rw[au (by simpa using a)];by_cases c:n<next
  ·rw[av c,a];exact acw w b next m n h h0 h1 hm d a c
  rw[au c,a];exact acu w b next m n h h0 h1 hm d a pm
 rw[av a];exact (acv w b next m n h h0 h1 hm d a).mono λ_ _ ⟨i,f⟩=>⟨i,h.kept f pu,eo f⟩
end
end Go.Proofs.YtmomfbkpniblgaaGreatDoor
