/- A part of this claim's proof. -/
import Derived.Test.YtmomfbkpniblgaaGreatDoorYj00
import Derived.ProofKit
import Derived.ShutString
import Derived.ChangeOld
import Derived.Deep.Slices
import Derived.Lib.SmallJoins
set_option linter.all false
namespace Go.Proofs.YtmomfbkpniblgaaGreatDoor
variable {P:Program}{t:TypeId}{w:World}
section
open Go.ChangeShapes Go.WideShapes Go.ChangeAt Go.RowKit
open Go.ChangeMaps (open_string shut_string)
inductive Lk where
 |int (k:IntKind)
 |bool
 |str
def Fj:Lk->Value->Prop
 | .int k,v=>∃n,v= .int k n/\(Lit.int k n).wf=true
 | .bool,v=>∃b,v= .bool b
 | .str,v=>∃s:ByteArray,v= .string s/\s.size<=maxLen
def Leaves(P:Program)(t:TypeId)(ks:List Lk):Prop:=
 ∀(H:Type) (b:TypeId×Value->H) (w:World) (base:Nat) (e:Nat->Bool) (d:Bool) (c:Nat) (a:Lv) (x:DataW H×List MemPlace),
  DataW.trod b P w base e d c t a=some x->∀(j:Nat) (k:Lk),ks[j]?=some k->∃v,a[j]?=some v/\Fj k v
def leaves_int {k:IntKind}(b:P.underlying t=some (.int k)):Leaves P t [.int k]:=by
 intro H e w base l g f d x h j i a;obtain ⟨n,rfl,_,c⟩:=DataW.trod_int b h
 match j,a with
 |0,a=>simp at a;subst a;exact ⟨_,rfl,n,rfl,c⟩
def leaves_str (b:P.underlying t=some .string):Leaves P t [.str]:=by
 intro H e w base k g f d x h j i a;obtain ⟨n,rfl,_,c⟩:=DataW.trod_string b h
 match j,a with
 |0,a=>simp at a;subst a;exact ⟨_,rfl,n,rfl,c⟩
def leaves_struct {d:Array Field}(I:P.underlying t=some (.struct d)){ks:List Lk}
 (y:∀(j:Nat) (k:Lk),ks[j]?=some k->∃(i:Nat) (f:Field) (c:List Lk) (b:Nat),d[i]?=some f/\Leaves P f.type c/\j=f.offset+b/\c[b]?=some k):Leaves P t ks:=by
 intro H l w base J q a0 U x h j k u;obtain ⟨R,n,_,_,_,C,r⟩:=DataW.trod_struct I h;obtain ⟨i,f,c,b,g,m,o,p⟩:=y j k u;have s:i<R.length:=by rw[C];exact (ot.1 g).1
 have e:=r i f g;rw[aW s]at e;obtain ⟨v,a,z⟩:=m H l w base J q n _ _ e b k p;rw[lN]at a;split at a
 ·rw[qL]at a;exact ⟨v,by rw[o];exact a,z⟩
 cases a
def IsRecs(ks:List Lk)(w:World)(a:Option Addr)(c b:Nat):Prop:=
 (a=none/\c=0/\b=0)\/
 ∃x,a=some x/\c<=b/\b<=maxLen/\∀i,i<c->∀(j:Nat) (k:Lk),ks[j]?=some k->∃v,w.cell? (x.add (i*ks.length+j))=some v/\Fj k v
def Tz {base:Nat}{a:Addr}{n:Nat}{cs:Lv}(h:w.cells? base a n=some cs):∀(j:Nat) (v:Value),cs[j]?=some v->w.cell? (a.add j)=some v:=by intro j v b;obtain ⟨_,e,c⟩:=World.cells?_some h;have d:j<cs.length:=(mD.1 b).1;have:=c j pm;rw[this,b]
def recs_of {H:Type}{o:TypeId×Value->H}{base:Nat}{a0:Nat->Bool}{y:Bool}{e:TypeId}{a:Option Addr}{g f:Nat}{d:DataW H}{p:List MemPlace}{ks:List Lk}
 (U:P.underlying t=some (.slice e)) (u:Leaves P e ks) (s:P.cellsOf e=ks.length) (h:DataW.Trod o P w base a0 y t (.slice a g f) d p):IsRecs ks w a g f:=by
 obtain ⟨a1,z⟩:=h;rcases Deep.open_slice U z with⟨b,_⟩|⟨x,l,c,m,n,D,Pl,b,hb,J,hm,R,_,hx⟩
 ·simp[Value.cells]at b;exact .inl b
 simp[Value.cells]at b;obtain ⟨rfl,rfl,rfl⟩:=b;refine .inr ⟨x,rfl,J,hm,λi hi j k C=>?_⟩;obtain ⟨cs,q,r⟩:=hx i (by rw[R];split<;>omega);obtain ⟨v,hv,I⟩:=u _ _ _ _ _ _ _ _ _ r j k C;have:=Tz q j v hv;rw[Deep.add_add,s]at this;exact ⟨v,this,I⟩
end
end Go.Proofs.YtmomfbkpniblgaaGreatDoor
