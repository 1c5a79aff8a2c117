/- A part of this claim's proof. -/
import Derived.Test.YtmomfbkpniblgaaGreatDoorYj00
set_option linter.all false
namespace Go.Proofs.YtmomfbkpniblgaaGreatDoor
variable {w:World}
section
open Go.RowKit
def TA (w:World)(u:Value)(t:TypeId):∀(j:Nat) (v:Value),[u][j]?=some v->(w.alloc (.cells #[u] t)).cell? ((⟨w.heap.size,0,none⟩:Addr).add j)=some v:=by
 intro j v a
 match j,a with
 |0,a=>simp at a;subst a;rw[show(⟨w.heap.size,0,none⟩:Addr).add 0=⟨w.heap.size,0,none⟩from rfl,cK (aO w _)];rfl
def KD {P:Program}{d:Array Oper}{rest:List Oper}{o:Oper}{a:Act}{Q:Exit->Act->World->Prop}(l:o.guard=none)(s x:Operand)(t:TypeId)
 (q:o.op= .call {callee:= .builtin .append,args:=#[s,x],argTypes:=#[t,t]})
 (base:Nat) (e:TypeId) (z:Value) (bytes:Nat) (I:P.underlying t=some (.slice e)) (p:(P.info? e).map (λi=>(i.zero,i.size,i.bytes))=some (some z,1,bytes))
 (a2:z.cells.size=1)
 (v:Value) (n:Nat) xs (C:a.eval s=v) (r:w.ownsRow base e 1 v n xs) (u:Value) (J:u.oneCell'=true)
 (R:a.eval x= .slice (some ⟨w.heap.size,0,none⟩) 1 1) (k:0<bytes) (y:(n+1)*bytes<=140737488355328) (a3:base<=w.heap.size)
 (h:∀c b,b.ownsRow base e 1 c (n+1) (xs++[u])->w.grownBy b v.ownBlock->wpList P d Q rest (a.put o.dst c) b):wpList P d Q (o::rest) a (w.alloc (.cells #[u] e)):=by
 obtain ⟨i0,m,U,a0,a1⟩:=mF p;have j:n+1<=maxLen:=by have:=Nat.le_mul_of_pos_right (n+1) k;unfold maxLen;omega
 exact wpList_append_own _ l s x t q base e i0 z 1 bytes I m U a0 a1 a2 pm v n xs C (r.alloc _) ⟨w.heap.size,0,none⟩ 1 1 [u] R rfl (TA w u e) (by simpa using J) j y pp
  λc b f g _=>h c b f (ai (aT _ _ _) g)
def Pz {a b}{base:Nat}{e:TypeId}{h n:Nat}{v}{xs}(HB:Below base w a)(g:a.ownsRow base e h v n xs)(c:base<=a.heap.size)(d:a.grownBy b v.ownBlock):Below base w b:=
 HB.trans (ql d base c λk f=>(g.lt k f).1)
end
end Go.Proofs.YtmomfbkpniblgaaGreatDoor
