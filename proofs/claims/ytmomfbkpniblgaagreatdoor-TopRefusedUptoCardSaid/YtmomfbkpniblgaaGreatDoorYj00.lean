/- A part of this claim's proof. -/
import Derived.Test.YtmomfbkpniblgaaGreatDoorYjAb
import Derived.Test.YtmomfbkpniblgaaGreatDoorRows
import Derived.WalkKit
import Derived.WalkSpells
import Derived.WalkLawsBesides
import Derived.BigQuiet
import Derived.Lib.Hide
import Derived.OpenShut
import Derived.Deep.LoopGhost
import Derived.Deep.DeepCutAuto
import Derived.Deep.DeepFit
import Derived.Deep.DeepMust
import Derived.Handy
import Derived.IntWalk
import Derived.Deep.QuietTactic
set_option linter.all false
namespace Go.Proofs.YtmomfbkpniblgaaGreatDoor
variable {c:Array Value}{n:Int}{k:Nat}{r:Option Nat}{t:TypeId}{a w:World}
section
open Go.RowKit
def ak (w:World)(r:Option Nat):w.grownBy w r:=⟨rfl,rfl,rfl,bm _,λ_ _ _=>rfl⟩
def ai {b c}(h:a.grownBy b r)(k:b.grownBy c r):a.grownBy c r:=
 ⟨k.os.trans h.os,k.tape.trans h.tape,k.output.trans h.output,bJ h.size k.size,λi d e=>(k.block i (fW d h.size) e).trans (h.block i d e)⟩
def cJ {b c}(h:a.grownBy b r)(g:b.grownBy c (some k))(f:a.heap.size<=k):a.grownBy c r:=
 ⟨g.os.trans h.os,g.tape.trans h.tape,g.output.trans h.output,bJ h.size g.size,λi d e=>(g.block i (fW d h.size) pp).trans (h.block i d e)⟩
def eo {b}(h:a.grownBy b none):a.grownBy b r:=
 ⟨h.os,h.tape,h.output,h.size,λi d _=>h.block i d pu⟩
def iT {b}(h:a.grownBy b r)(n:Nat):a.grownBy (b.drewN n) r:=
 ai h ⟨rfl,rfl,rfl,bm _,λ_ _ _=>rfl⟩
def aM {b}(h:a.grownBy b r):a.grownBy b.drew r:=
 ai h ⟨rfl,rfl,rfl,bm _,λ_ _ _=>rfl⟩
def aF {b}(h:a.grownBy b r)(o:Obj):a.grownBy (b.alloc o) r:=
 ai h (aT _ _ _)
def aw {b}(h:a.grownBy b (some k))(o:Nat) v:a.grownBy (b.setCell ⟨k,o,none⟩ v) (some k):=
 ai h ⟨rfl,rfl,rfl,by simp[World.setCell],λi _ d=>Below.heap_setCell _ _ _ _ (by intro e;subst e;exact d rfl)⟩
def cj {b}(h:a.grownBy b r)(p:Addr)(f:a.heap.size<=p.block) v:a.grownBy (b.setCell p v) r:=
 ⟨h.os,h.tape,h.output,by simpa[World.setCell]using h.size,λi d e=>(Below.heap_setCell _ _ _ _ pm).trans (h.block i d e)⟩
def ql {b}(h:a.grownBy b r)(B:Nat)(f:B<=a.heap.size)(d:∀k,r=some k->B<=k):Below B a b:=
 ⟨h.os,h.tape,h.output,h.size,λi g=>h.block i pm (by intro e;have:=d i e.symm;omega)⟩
def iU {b}(h:Below a.heap.size a b):a.grownBy b r:=
 ⟨h.os,h.tape,h.output,h.size,λi d _=>h.block i d⟩
def FJ {b}(h:Below w.heap.size w a)(g:a.grownBy b r)(d:∀k,r=some k->w.heap.size<=k):Below w.heap.size w b:=
 h.trans (ql g _ h.size d)
def rv {b}(h:a.grownBy b r){o:Obj}(d:a.heap[k]?=some o)(f:some k≠r):b.heap[k]?=some o:=by have e:k<a.heap.size:=(ot.1 d).1;rw[h.block k e f];exact d
def kE {b:Nat}{o:Obj}(h:w.heap[b]?=some o):b<w.heap.size:=(ot.1 h).1
def aO (w:World)(o:Obj):(w.alloc o).heap[w.heap.size]?=some o:=by show(w.heap.push o)[w.heap.size]?=_;simp
def cG {o b:Obj}(h:w.heap[k]?=some o):(w.alloc b).heap[k]?=some o:=by rw[BP _ _ _ (kE h)];exact h
def jQ {b:Nat}{f:Nat×Nat}(h:w.heap[b]?=some (.cells c t f))(o:Nat) v:
 (w.setCell ⟨b,o,none⟩ v).heap[b]?=some (.cells (c.setIfInBounds o v) t f):=by
 simp[World.setCell,Array.getElem?_modify,h]
def cK {b:Nat}{f:Nat×Nat}(h:w.heap[b]?=some (.cells c t f))(o:Nat):w.cell? ⟨b,o,none⟩=c[o]?:=by simp[World.cell?,h]
def nV {b:Nat}(h:w.heap[b]?=some (.cells c t (0,0)))(o:Nat):w.frozen? ⟨b,o,none⟩=false:=by simp[World.frozen?,h]
def Qd {a b:Bool}(h:a=b):Ending.returned (.bool a)= .returned (.bool b):=by rw[h]
def wf_i64 (h: -9223372036854775808<=n/\n<=9223372036854775807):(Lit.int .i64 n).wf=true:=by simp only[Lit.wf,fY,kr];exact h
def wf_u32 (h:0<=n/\n<=4294967295):(Lit.int .u32 n).wf=true:=by simp only[Lit.wf,fY,kr];exact h
def pq {k:IntKind}{a b:Int}(h:a=b):Ending.returned (.int k a)= .returned (.int k b):=by rw[h]
end
end Go.Proofs.YtmomfbkpniblgaaGreatDoor
