/- A part of this claim's proof. -/
import Derived.Test.YtmomfbkpniblgaaGreatDoorYj03
import Derived.Laws.BitsAllLaws
import Derived.Laws.BytesArg
import Derived.Deep.RegionHeld3
import Derived.Deep.AppendLies
set_option linter.all false
namespace Go.Proofs.YtmomfbkpniblgaaGreatDoor
open Go.Proofs.Tryz
variable {l:Lb}{v:Value}{w w':World}
section
open Go.RowKit
def aS(c:UInt8):Value:=aB c.toNat
def S(l:Lb):Value:= .string ⟨l.toArray⟩
def dq(w:World)(base:Nat)(v:Value)(l:Lb):Prop:=w.ownsRow base 5 1 v l.length (l.map aS)
def mO w (base:Nat):dq w base (.slice none 0 0) []:=Fb _ _ _ _
def dq.kept {base:Nat}{r:Option Nat}(h:dq w base v l)(g:w.grownBy w' r)(a:v.ownBlock=none\/v.ownBlock≠r):dq w' base v l:=tF h g a
def dq.Ih {base:Nat}(h:dq w base v l)(g:w.grownBy w' none):dq w' base v l:=tF h g (by cases v.ownBlock<;>simp)
def Ag:(prog.info? 5).map (λi=>(i.zero,i.size,i.bytes))=some (some (aB 0),1,1):=qr
def iO (c:UInt8):c.toNat<256:=c.toNat_lt
def Cq (n:Nat):Value.int .u8 (n%256:Nat)=aS (UInt8.ofNat n):=by unfold aS;rw[uZ]
def KC {d:Array Oper}{rest:List Oper}{o:Oper}{a:Act}{Q:Exit->Act->World->Prop}(i:o.guard=none)(s x:Operand)
 (j:o.op= .call {callee:= .builtin .append,args:=#[s,x],argTypes:=#[83,83]})
 (base:Nat) (v:Value) l (m:a.eval s=v) (k:dq w base v l) (c:UInt8) (u:Value) (n:u=aS c)
 (p:a.eval x= .slice (some ⟨w.heap.size,0,none⟩) 1 1) (q:l.length+1<=140737488355328) (g:base<=w.heap.size)
 (h:∀b w',dq w' base b (l++[c])->w.grownBy w' v.ownBlock->wpList prog d Q rest (a.put o.dst b) w'):wpList prog d Q (o::rest) a (w.alloc (.cells #[u] 5)):=by
 subst n;refine KD i s x 83 j base 5 (aB 0) 1 underlying83 Ag rfl v l.length (l.map aS) m k (aS c) rfl p pm pm g ?_;intro b w' e f;refine h b w' ?_ f;unfold dq;rw[aK,jW];exact e
def ym (w:World)(o:Obj):(w.alloc o).drew.heap[w.heap.size]?=some o:=aO w o
def dq.alloc {base:Nat}(h:dq w base v l)(o:Obj):dq (w.alloc o) base v l:=World.ownsRow.alloc h o
def aaS (l:Lb):strOfNums (l.map λc=>(c.toNat:Int))=⟨l.toArray⟩:=by
 unfold strOfNums;rw[Ca];congr 1;congr 1;have:((λn:Int=>UInt8.ofNat n.toNat)∘λc:UInt8=>(c.toNat:Int))=id:=by funext c;simp
 rw[this,List.map_id]
def jL {base:Nat}(h:dq w base v l):(convert 83 9 v).run prog w= .ok (S l) w:=by
 unfold dq at h;rcases h.2with⟨rfl,j⟩|⟨g,d,m,rfl,n,p,q,o,r,s⟩
 ·obtain rfl:=pG j;exact run_convert_bytes_nil w 83 5 underlying83 underlying5 0 0 9 underlying9
 have k:∀i,i<l.length->w.cell? ⟨g,0+i,none⟩=some (aB ((l.map λc=>(c.toNat:Int)).getD i 0)):=by
  intro i b;have e:(l.map aS)[i]?=some (aS l[i]):=by simp[aW b]
  have a:=h.cells (g:=g) rfl i _ e;have f:(⟨g,0,none⟩:Addr).add i=⟨g,0+i,none⟩:=by unfold Addr.add;split<;>simp_all
  rw[f]at a;rw[a];simp[aS,List.getD,aW b]
 have:=run_convert_bytes_arg w 83 5 underlying83 underlying5 g 0 l.length d (l.map λc=>(c.toNat:Int)) pu k 9 underlying9;rw[aaS]at this;exact this
def dq.drew {base:Nat}(h:dq w base v l):dq w.drew base v l:=h
end
end Go.Proofs.YtmomfbkpniblgaaGreatDoor
