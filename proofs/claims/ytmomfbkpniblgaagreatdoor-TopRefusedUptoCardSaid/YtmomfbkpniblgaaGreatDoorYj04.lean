/- A part of this claim's proof. -/
import Derived.Test.YtmomfbkpniblgaaGreatDoorYj00
import Derived.Deep.MidRow
import Derived.ChangeKeysEq
import Derived.Laws.BitsAllLaws
import Derived.Maps.AppendAt
import Derived.Test.YtmomfbkpniblgaaGreatDoorYj01
import Derived.Deep.RegionHeld3
import Derived.StillTailTactics
import Derived.Orders
import Derived.Deep.RegionWith
set_option linter.all false
set_option maxHeartbeats 4000000
namespace Go.Proofs.YtmomfbkpniblgaaGreatDoor
open Go.Proofs.Tryz
variable {ops:Array Oper}{Q:Exit->Act->World->Prop}{from_ next:Int}{G H:Ln}{vs xs:Lv}{B B0 a i k m n s size tb x:Nat}{r:Option Nat}{P:Program}{e t:TypeId}{v:Value}{c w w':World}
section
open Go.RowKit
def ab(w:World)(B:Nat)(t:TypeId)(vs:Lv):Prop:=w.heap[B]?=some (.cells vs.toArray t (0,0))
def ab.lt (h:ab w B t vs):B<w.heap.size:=kE h
def ab.cell (h:ab w B t vs)(i:Nat):w.cell? ⟨B,i,none⟩=vs[i]?:=by rw[cK h];simp
def ab.frozen (h:ab w B t vs)(i:Nat):w.frozen? ⟨B,i,none⟩=false:=nV h i
def ab.set (h:ab w B t vs)(i:Nat) v:ab (w.setCell ⟨B,i,none⟩ v) B t (vs.set i v):=by unfold ab;rw[jQ h];simp
def ab.kept (h:ab w B t vs)(g:w.grownBy w' r)(b:some B≠r):ab w' B t vs:=rv g h b
def ab.drew (h:ab w B t vs):ab w.drew B t vs:=h
def ab.new (w:World)(t:TypeId)(vs:Lv):ab (w.alloc (.cells vs.toArray t)) w.heap.size t vs:=aO w _
def ab.range (h:ab w B t vs):w.rangeAt B 0 vs:=by intro j v b;rw[ef,h.cell];exact b
def ab.there (h:ab w B t vs)(n:Nat)(d:vs.length=n):w.there B 0 n:=by subst d;intro j b;rw[ef,h.cell,aW b];exact ⟨rfl,h.frozen j⟩
def yF (b:Nat):∀(vs:Lv) (o:Nat) (w:World) (c:Lv) (t:TypeId),ab w b t c->ab (w.setCells b o vs) b t ((c.take o++vs++c.drop (o+vs.length)).take c.length)\/c.length<o+vs.length
 |[],o,w,c,t,h=>by left;simp only[World.setCells,ev,yY,jY,pJ,pK];exact h
 |v::r,o,w,c,t,h=>by
  rcases yF b r (o+1) (w.setCell ⟨b,o,none⟩ v) (c.set o v) t (h.set o v)with d|d
  ·by_cases q:o<c.length
   ·left;simp only[World.setCells];have e:((c.set o v).take (o+1)++r++(c.set o v).drop (o+1+r.length)).take (c.set o v).length=(c.take o++(v::r)++c.drop (o+(v::r).length)).take c.length:=by rw[gL,fP (by simpa using q),EN,List.take_set_of_le (bm _),List.drop_set_of_lt pm];simp only[eI,dM,pL,kP];rw[show o+1+r.length=o+(r.length+1)from pm]
    rw[<-e];exact d
   right;simp only[eI];omega
  right;simp only[gL,eI]at d⊢;omega
def ab.store {c}(h:ab w B t c)(vs:Lv)(d:vs.length=c.length):ab (w.setCells B 0 vs) B t vs:=by
 rcases yF B vs 0 w c t h with b|b
 ·rw[rW,kP,ef,d,tI,ev,cE pm]at b;exact b
 omega
def qm (k:Nat):∀(vs:Lv) (o:Nat) (a b:World),a.grownBy b (some k)->a.grownBy (b.setCells k o vs) (some k)
 |[],_,_,_,h=>h
 |v::r,o,a,b,h=>qm k r (o+1) a (b.setCell ⟨k,o,none⟩ v) (aw h o v)
def uu {a b:World}(h:a.grownBy b r)(k:Nat)(d:a.heap.size<=k)(o:Nat) vs:a.grownBy (b.setCells k o vs) r:=
 cJ h (qm k vs o b b (ak _ _)) d
def Qq (w:World)(t:TypeId):∀(vs pre c:Lv),vs.length=c.length->(w.alloc (.cells (pre++c).toArray t)).setCells w.heap.size pre.length vs=w.alloc (.cells (pre++vs).toArray t)
 |[],pre,c,h=>by obtain rfl:c=[]:=pG h.symm;rfl
 |v::vs,pre,d::c,h=>by
  rw[World.setCells,World.setCell_alloc_at _ _ _ _ _ rfl];have e:(pre++d::c).toArray.setIfInBounds pre.length v=((pre++[v])++c).toArray:=pu
  rw[e];have:=Qq w t vs (pre++[v]) c (by simpa using h);rw[aK,tD]at this;rw[this,dM];rfl
 |_::_,_,[],h=>by simp at h
def yz (w:World)(c:Array Value)(t:TypeId)(vs:Lv)(g:vs.length=c.size)(h1:∀v∈vs,v.oneCell'=true):
 (storeCells ⟨w.heap.size,0,none⟩ vs).run P (w.alloc (.cells c t))= .ok () (w.alloc (.cells vs.toArray t)):=by
 have d:ab (w.alloc (.cells c t)) w.heap.size t c.toList:=aO w _;have b:=d.there c.size pu;have:=Br (P:=P) w.heap.size 0 vs 0 (w.alloc (.cells c t)) (λj f=>(b j pm).1) (λj f=>(b j pm).2) h1;rw[this];have e:=Qq w t vs [] c.toList (by rw[g,rT]);simp only[kP,yY]at e;rw[show(c.toList.toArray:Array Value)=c from pu]at e;rw[show(0+0:Nat)=0from rfl,e]
def uJ {f:Func}{t:Tmp}{b:TypeId}(h:f.results=#[.cell t b])(j:Array Value) w (B:Nat)(g:j.getD t undef=dy B 0) vs (d:TypeDesc)
 (l:ab w B b vs) (u:P.underlying b=some d) (o:d.isRow=true) (p:(P.info? b).map (·.size)=some vs.length):(results f j).run P w= .ok (.agg vs.toArray) w:=by
 have q:=run_loadVar_mid w B 0 b vs d l.range u o p;rw[wT]at g;simp[results,h,g,q,asAddr]
def QD (h:(P.info? e).map (·.size)=some n)(w:World):(Go.sizeOf e).run P w= .ok n w:=by
 cases hq:P.info? e with
 |none=>rw[hq]at h;simp at h
 |some i=>
  rw[hq]at h;have b:i.size=n:=by simpa using h
  simp[sizeOf,typeInfo,hq,b]
def Je (w:World)(t e:TypeId)(n:Nat)(cs:Array Value)(i:Nat)(v:Value)(h:P.underlying t=some (.array n e))(l:(P.info? e).map (·.size)=some 1)(f:P.plainKey e=true)(g:i<n)(j:cs[i]?=some v):
 (Instr.index t (.agg cs) (ar i)).run P w= .ok v w:=by
 have o:(0:Int)<=(i:Int)/\(i:Int)<(n:Int):=pm
 have d:=QD l w;have b:=run_part_plain (P:=P) (w:=w) f j;simp only[Go.part,tL]at b;simp[Instr.index,rV h,asIntOf,g,d,Go.part,go_sem];simpa[go_sem]using b
def eG(x s:Nat):Nat:=x*2^s%4294967296|||x/2^(32-s)
def jr (b:x<4294967296):eG x s<4294967296:=
 ow (n:=32) (dQ _ pm) (kO (qQ _ _) b)
def gG {b:Nat}(d:a<4294967296)(f:b<4294967296):a^^^b<4294967296:=EY (n:=32) d f
def V5 (f:x<4294967296)(X:Int)(b:X=((x*2^s%4294967296:Nat):Int))(Y:Int)(d:Y=((x/2^(32-s):Nat):Int)):
 bits .or .u32 X Y=((eG x s:Nat):Int):=by
 subst b d;rw[u32_or_nat _ _ (dQ _ pm) (kO (qQ _ _) f)];rfl
def nj (x s:Nat)(k:Int) w (b:x<4294967296)(l:bits .and .u64 (IntKind.u64.wrap k) 31=(s:Int))(h0:0<s)(j:s<32):
 Calls prog 283 #[ay x,ar k] w λe w'=>e= .returned (ay (eG x s:Nat))/\w=w':=by
 have d:IntKind.u64.wrap (32-(s:Int))=32-(s:Int):=dE _ pm;have f:(s:Int)<=32:=pm
 have g:32-(s:Int)<=32:=pm
 have h:0<=32-(s:Int):=pm
 go_enter func283,ntmps283;go_wp2;go_ret;refine ⟨pq ?_,rfl⟩;refine V5 b _ ?_ _ ?_
 ·simp
 simp
end
section
open Go.RowKit
structure aC(w w':World)(G:Ln):Prop where
 os:w'.os=w.os
 tape:w'.tape=w.tape
 output:w'.output=w.output
 size:w.heap.size<=w'.heap.size
 block:∀i,i<w.heap.size->i∉G->w'.heap[i]?=w.heap[i]?
def aC.refl w (G:Ln):aC w w G:=⟨rfl,rfl,rfl,bm _,λ_ _ _=>rfl⟩
def aC.trans {a b}(h:aC a b G)(k:aC b c H)(g:∀i∈H,i∈G\/a.heap.size<=i):aC a c G:=
 ⟨k.os.trans h.os,k.tape.trans h.tape,k.output.trans h.output,bJ h.size k.size,λi d f=>(k.block i (fW d h.size) (λe=>(g i e).elim f pm)).trans (h.block i d f)⟩
def aC.mono {a b}(h:aC a b G)(g:∀i∈G,i∈H):aC a b H:=⟨h.os,h.tape,h.output,h.size,λi d f=>h.block i d (λe=>f (g i e))⟩
def aC.grown {a b:World}(h:a.grownBy b r):aC a b r.toList:=⟨h.os,h.tape,h.output,h.size,λi d f=>h.block i d (λe=>f (by rw[<-e];simp))⟩
def aC.new {a b:World}(h:a.grownBy b none)(G:Ln):aC a b G:=(aC.grown h).mono pu
def aC.one {a b:World}(h:a.grownBy b (some k))(d:k∈G):aC a b G:=(aC.grown h).mono (by simpa using d)
def aC.obj {a b}(h:aC a b G){o:Obj}(d:a.heap[k]?=some o)(f:k∉G):b.heap[k]?=some o:=(h.block k (kE d) f).trans d
def aC.bu {a b}(h:aC a b G)(f:ab a k t vs)(d:k∉G):ab b k t vs:=h.obj f d
def cD(w:World)(b:Nat):Option TypeId:=match w.heap[b]?with
 |some (.cells _ t _)=>some t
 |_=>none
def ab.kind {b:Nat}(h:ab w b t vs):cD w b=some t:=by unfold cD;rw[h]
def aZ(w:World)(e:TypeId)(size:Nat)(v:Value)(n:Nat)(xs:Lv):Prop:=
 xs.length=n*size/\((v= .slice none 0 0/\n=0)\/
  ∃g o b d,v= .slice (some ⟨g,o,none⟩) n b/\w.heap[g]?=some (.cells d e (0,0))/\n<=b/\b<=maxLen/\d.size=o+b*size/\(d.toList.drop o).take (n*size)=xs)
def nX w (e:TypeId)(size:Nat):aZ w e size (.slice none 0 0) 0 []:=⟨pu, .inl ⟨rfl,rfl⟩⟩
def aZ.only (h:aZ w e size v n xs)(g:aC w w' G)(l:∀k,v.ownBlock=some k->k∉G):aZ w' e size v n xs:=by refine ⟨h.1,h.2.imp id ?_⟩;rintro ⟨b,o,d,f,rfl,j,rest⟩;exact ⟨b,o,d,f,rfl,g.obj j (l b rfl),rest⟩
def aZ.kept (h:aZ w e size v n xs)(g:w.grownBy w' r)(b:v.ownBlock=none\/v.ownBlock≠r):aZ w' e size v n xs:=
 h.only (aC.grown g) (λk d hm=>by
  rw[d]at b;cases r with
  |none=>simp at hm
  |some r=>simp at hm;subst hm;simp at b)
def aZ.new (h:aZ w e size v n xs)(g:w.grownBy w' none):aZ w' e size v n xs:=h.only (aC.new g []) pu
def aZ.kind (h:aZ w e size v n xs):∀k,v.ownBlock=some k->cD w k=some e/\k<w.heap.size:=by
 intro k d;rcases h.2with⟨rfl,_⟩|⟨g,o,f,j,rfl,b,_⟩
 ·simp[Value.ownBlock]at d
 obtain rfl:g=k:=by simpa[Value.ownBlock]using d
 exact ⟨by unfold cD;rw[b],kE b⟩
def Pv {base:Nat}(h:w.ownsRow base e size v n xs):aZ w e size v n xs:=
 ⟨h.1,h.2.imp id λ⟨g,b,d,f,_,j,l,o,q,p⟩=>⟨g,0,b,d,f,j,l,o,pm,by simpa using p⟩⟩
def PC {base base':Nat}(h:w.ownsRow base e size v n xs)(o:base'<=base):w.ownsRow base' e size v n xs:=
 ⟨h.1,h.2.imp id λ⟨g,b,d,f,j,l⟩=>⟨g,b,d,f,bJ o j,l⟩⟩
def qY (g o k:Nat):(⟨g,o,none⟩:Addr).add k=⟨g,o+k,none⟩:=by unfold Addr.add;split<;>simp_all
def aZ.at {w}{e:TypeId}{size:Nat}{v}{n:Nat}{xs}(h:aZ w e size v n xs)(J:0<n):
 ∃g o b,v= .slice (some ⟨g,o,none⟩) n b/\n<=b/\b<=maxLen/\g<w.heap.size/\(∀j,w.frozen? ⟨g,j,none⟩=false)/\∀j u,xs[j]?=some u->w.cell? ⟨g,o+j,none⟩=some u:=by
 rcases h.2with⟨_,C⟩|⟨g,o,b,z,y,f,l,p,I,q⟩
 ·omega
 refine ⟨g,o,b,y,l,p,kE f,λj=>nV f j,λj u d=>?_⟩;rw[cK f];rw[<-q]at d;rw[lN]at d;split at d
 ·simpa using d
 cases d
variable{P:Program}
def X7 (w:World)(t R e:TypeId)(i:TypeInfo)(J:P.underlying t=some (.slice e))(y:P.info? e=some i)
 (g o d f:Nat) cur (q:w.heap[g]?=some (.cells cur e (0,0)))
 (a:Addr) (m c:Nat) (b:Lv) (z:b.length=m*i.size) (C:∀j u,b[j]?=some u->w.cell? (a.add j)=some u) (h1:∀u∈b,u.oneCell'=true)
 (I:d+m<=f) (p:o+d*i.size+b.length<=cur.size):
 (Builtin.append_ #[t,t] R #[.slice (some ⟨g,o,none⟩) d f, .slice (some a) m c]).run P w=
  .ok (.slice (some ⟨g,o,none⟩) (d+m) f) (w.setRow g (cur.toList.take (o+d*i.size)++b++cur.toList.drop (o+d*i.size+b.length)).toArray):=by
 have l:=run_firstCells_some (P:=P) w i.size m a m c b z C;have h:=run_storeCells_at P g (o+d*i.size) e b 0 cur w q (by simpa using p) h1;simp only[jY]at h;simp[Builtin.append_,rV J,sizeOf,typeInfo,y,Builtin.lenOf,I,l,qY,h]
def wE w (t U e:TypeId)(i:TypeInfo)(z:Value)(size bytes:Nat)(ht:P.underlying t=some (.slice e))(hi:P.info? e=some i)(hz:i.zero=some z)
 (b4:i.size=size) (a9:i.bytes=bytes) (b5:z.cells.size=size) (b8:0<size) v (n:Nat) xs (l:aZ w e size v n xs)
 (a:Addr) (m c:Nat) (b:Lv) (d:b.length=m*size) (a1:∀j u,b[j]?=some u->w.cell? (a.add j)=some u) (h1:∀u∈b,u.oneCell'=true)
 (hm:0<m) (a4:n+m<=maxLen) (a5:(n+m)*bytes<=140737488355328):
 ∃v' w',(Builtin.append_ #[t,t] U #[v, .slice (some a) m c]).run P w= .ok v' w'/\aZ w' e size v' (n+m) (xs++b)/\w.grownBy w' v.ownBlock/\(v'.ownBlock=v.ownBlock\/v'.ownBlock=some w.heap.size)/\aZ w' e size v n xs:=by
 subst b4;subst a9;have b7:n+m<=9223372036854775807:=by simp only[maxLen]at a4;omega
 have a0:(xs++b).length=(n+m)*i.size:=by rw[aK,l.1,d,rZ]
 have grown:∀(aN:Nat),aN<n+m->∀(a8:Option Nat),
  aZ (w.drew.alloc (.cells (xs.toArray++b.toArray++Builtin.zeroCells z.cells (grownCap w (n+m) aN e-(n+m))) e)) e i.size
   (.slice (some ⟨w.heap.size,0,none⟩) (n+m) (grownCap w (n+m) aN e)) (n+m) (xs++b)/\
  w.grownBy (w.drew.alloc (.cells (xs.toArray++b.toArray++Builtin.zeroCells z.cells (grownCap w (n+m) aN e-(n+m))) e)) a8:=by
  intro aN ho a8;have b0:=grownCap_ge w (n+m) aN e;have J:grownCap w (n+m) aN e<=maxLen:=grownCap_le_maxLen w (n+m) aN e a4;refine ⟨⟨a0, .inr ⟨w.heap.size,0,_,_,rfl,aO w.drew _,b0,J,?_,?_⟩⟩,⟨rfl,rfl,rfl,pu,λk hk _=>BP w.drew _ k hk⟩⟩
  ·simp only[Array.size_append,qM,size_zeroCells,b5,l.1,d,<-rZ];rw[ef];congr 1;omega
  simp only[Array.toList_append,dM,oA];rw[<-dM,<-a0];exact yZ
 rcases l.2with⟨rfl,rfl⟩|⟨g,o,f,p,rfl,R,b2,J,a6,a3⟩
 ·have hx:xs=[]:=pG (by simpa using l.1);subst hx;have y:=run_append_nil (P:=P) w t U e i z ht hi hz a m c b d a1 pm pm (by have hb:=a5;simp only[ef]at hb;omega);have h:=grown 0 pm (Value.ownBlock (.slice none 0 0));simp only[ef,kP,Array.empty_append]at h⊢;exact ⟨_,_,y,h.1,h.2,Or.inr rfl,nX _ _ _⟩
 have a7:xs.length=n*i.size:=l.1;have I:p.toList.length=o+f*i.size:=by rw[rT];exact a6
 by_cases a2:n+m<=f
 ·have b6:n*i.size+m*i.size<=f*i.size:=by rw[<-rZ];exact wX _ a2
  have a':o+n*i.size+b.length<=p.size:=by rw[d,a6];omega
  have y:=X7 (P:=P) w t U e i ht hi g o n f p R a m c b d a1 h1 a2 a';refine ⟨_,_,y,⟨a0, .inr ⟨g,o,f,_,rfl,setRow_heap w g p _ e _ R,a2,J,?_,?_⟩⟩,⟨rfl,rfl,rfl,pu,λk _ hk=>setRow_other w g k _ (λe=>hk (by simp[Value.ownBlock,e]))⟩,Or.inl rfl,⟨a7, .inr ⟨g,o,f,_,rfl,setRow_heap w g p _ e _ R,b2,J,?_,?_⟩⟩⟩
  ·simp only[qM,aK,aJ,aR,I];rw[d];omega
  ·rw[<-a3,rZ];apply oy;intro j;simp only[lN,qL,Bw,aJ,aR,aK,I,d];by_cases C:j<n*i.size
   ·rw[av pm,av pm,av pm,av pm,av pm,av pm]
   by_cases q2:j<n*i.size+m*i.size
   ·rw[av pm,av pm,au pm,au pm];congr 1;omega
   rw[au pm,au pm,eE (by rw[d];omega)]
  ·simp only[qM,aK,aJ,aR,I];rw[d];omega
  rw[<-a3];apply oy;intro j;simp only[lN,qL,Bw,aJ,aR,aK,I,d];by_cases C:j<n*i.size
  ·rw[av C,av C,av pm,av pm,av pm]
  rw[au C,au C]
 have b3:∀j u,xs[j]?=some u->w.cell? ((⟨g,o,none⟩:Addr).add j)=some u:=by
  intro j u q;rw[qY,cK R];rw[<-a3]at q;rw[lN]at q;split at q
  ·simpa using q
  cases q
 have y:=run_append_grow (P:=P) w t U e i z ht hi hz ⟨g,o,none⟩ n f xs a7 b3 a m c b d a1 pm pm (growslice_fits pm a5);have h:=grown f pm (some g);have b1:=(grown f pm none).2;exact ⟨_,_,y,h.1,h.2,Or.inr rfl,l.new b1⟩
end
section
open Go.RowKit
structure Tm where
 iC:Bool
 tries:Int
 last:Int
 jR:Bool
 since:Int
def dS(w:World)(b:Nat)(t:Tm):Prop:=
 w.heap[b]?=some (.cells #[.bool t.iC,ar t.tries,ar t.last, .bool t.jR,ar t.since] 187 (0,0))
def abx w:Calls prog 67 #[] w λe w'=>e= .returned (dy w.heap.size 0)/\dS w' w.heap.size ⟨false,0,0,false,0⟩/\w.grownBy w' none:=by go_enter func67,ntmps67;go_wp2;go_ret;exact ⟨rfl,aO _ _,aF (ak _ _) _⟩
def dS.cells {b:Nat}{t:Tm}(h:dS w b t):
 w.cell? ⟨b,0,none⟩=some (.bool t.iC)/\w.cell? ⟨b,1,none⟩=some (ar t.tries)/\w.cell? ⟨b,2,none⟩=some (ar t.last)/\w.cell? ⟨b,3,none⟩=some (.bool t.jR)/\w.cell? ⟨b,4,none⟩=some (ar t.since)/\(∀o,w.frozen? ⟨b,o,none⟩=false):=by
 unfold dS at h;refine ⟨?_,?_,?_,?_,?_,λo=>?_⟩<;>simp[World.cell?,World.frozen?,h]
def dS.set {b:Nat}{t:Tm}(h:dS w b t)(o:Nat)(v:Value)(d:Tm)
 (f:(#[.bool t.iC,ar t.tries,ar t.last, .bool t.jR,ar t.since]:Array Value).setIfInBounds o v=#[.bool d.iC,ar d.tries,ar d.last, .bool d.jR,ar d.since]):dS (w.setCell ⟨b,o,none⟩ v) b d:=by
 unfold dS;rw[jQ h,f]
def abz w (b:Nat)(t:Tm)(d:Int)(h:dS w b t)(h0:0<=d)(h1:d<=1099511627776):
 Calls prog 73 #[dy b 0,ar 1,ar d] w λe w'=>e= .returned (ar 0)/\dS w' b {t with jR:=false}/\w.grownBy w' (some b):=by
 obtain ⟨c0,c1,f,g,j,l⟩:=h.cells;go_enter func73,ntmps73;go_wp2;go_ret;exact ⟨rfl,h.set _ _ _ rfl,aw (ak _ _) _ _⟩
def abv w (b:Nat)(t:Tm)(d:Int)(h:dS w b t)(h0:0<=d)(h1:d<=1099511627776)(o:t.jR=true):
 Calls prog 73 #[dy b 0,ar 2,ar d] w λe w'=>e= .returned (ar 0)/\dS w' b t/\w.grownBy w' (some b):=by
 obtain ⟨c0,c1,f,g,j,l⟩:=h.cells;go_enter func73,ntmps73;go_wp2;go_ret;exact ⟨rfl,h,ak _ _⟩
def abu w (b:Nat)(t:Tm)(d:Int)(h:dS w b t)(h0:0<=d)(h1:d<=1099511627776)(o:t.jR=false):
 Calls prog 73 #[dy b 0,ar 2,ar d] w λe w'=>e= .returned (ar 0)/\dS w' b {t with jR:=true,since:=d}/\w.grownBy w' (some b):=by
 obtain ⟨c0,c1,f,g,j,l⟩:=h.cells;go_enter func73,ntmps73;go_wp2;go_ret;exact ⟨rfl,(h.set 3 (.bool true) {t with jR:=true} rfl).set 4 _ _ rfl,aw (aw (ak _ _) _ _) _ _⟩
def abB w (b:Nat)(t:Tm)(d:Int)(h:dS w b t)(h0:0<=d)(h1:d<=1099511627776):
 Calls prog 73 #[dy b 0,ar 3,ar d] w λe w'=>e= .returned (ar 0)/\dS w' b {t with iC:=true}/\w.grownBy w' (some b):=by
 obtain ⟨c0,c1,f,g,j,l⟩:=h.cells;go_enter func73,ntmps73;go_wp2;go_ret;exact ⟨rfl,h.set _ _ _ rfl,aw (ak _ _) _ _⟩
def abt w (b:Nat)(t:Tm)(d:Int)(h:dS w b t)(h0:0<=d)(h1:d<=1099511627776):
 Calls prog 73 #[dy b 0,ar 4,ar d] w λe w'=>e= .returned (ar 0)/\dS w' b {t with iC:=true,tries:=wrap64 (t.tries+1),last:=d}/\w.grownBy w' (some b):=by
 obtain ⟨c0,c1,f,g,j,l⟩:=h.cells;go_enter func73,ntmps73;go_wp2;go_ret;exact ⟨rfl,((h.set 0 (.bool true) {t with iC:=true} rfl).set 1 _ {t with iC:=true,tries:=wrap64 (t.tries+1)} rfl).set 2 _ _ rfl,by repeat(first|exact ak _ _|apply aw)⟩
def abw w (b:Nat)(t:Tm)(d:Int)(h:dS w b t)(h0:0<=d)(h1:d<=1099511627776):
 Calls prog 73 #[dy b 0,ar 5,ar d] w λe w'=>e= .returned (ar 0)/\dS w' b {t with iC:=false,tries:=0}/\w.grownBy w' (some b):=by
 obtain ⟨c0,c1,f,g,j,l⟩:=h.cells;go_enter func73,ntmps73;go_wp2;go_ret;exact ⟨rfl,(h.set 0 (.bool false) {t with iC:=false} rfl).set 1 _ _ rfl,by repeat(first|exact ak _ _|apply aw)⟩
def abA w (b:Nat)(t:Tm)(d:Int)(h:dS w b t)(h0:0<=d)(h1:d<=1099511627776):
 Calls prog 73 #[dy b 0,ar 6,ar d] w λe w'=>e= .returned (ar 0)/\dS w' b ⟨false,0,0,false,0⟩/\w.grownBy w' (some b):=by
 obtain ⟨c0,c1,f,g,j,l⟩:=h.cells;go_enter func73,ntmps73;go_wp2;go_ret;exact ⟨rfl,((((h.set 0 (.bool false) {t with iC:=false} rfl).set 1 (ar 0) {t with iC:=false,tries:=0} rfl).set 2 (ar 0) {t with iC:=false,tries:=0,last:=0} rfl).set 3 (.bool false) {t with iC:=false,tries:=0,last:=0,jR:=false} rfl).set 4 _ _ rfl,by repeat(first|exact ak _ _|apply aw)⟩
def JI(t:Tm)(b:Int):Int:=
 if t.iC=true/\t.tries=0then 1 else
 if t.iC=true/\t.last+5<=b then(if t.tries=6then 3 else 1)else
 if t.jR=true/\t.since+10<=b then 2 else 0
def aby w (b:Nat)(t:Tm)(d:Int)(h:dS w b t)(h0:0<=t.last)(h1:t.last<=1099511627776)(o:0<=t.since)(p:t.since<=1099511627776):
 Calls prog 120 #[dy b 0,ar d] w λe w'=>e= .returned (ar (JI t d))/\w.grownBy w' none:=by
 obtain ⟨c0,c1,f,g,j,l⟩:=h.cells;go_enter func120,ntmps120;go_wp2;all_goals
  go_ret;refine ⟨pq ?_,ak _ _⟩;unfold JI
  simp_all
  try omega
def IK:(18446744073709551616:Nat)=2^64:=ut
def gu(next:Int)(m:Nat)(n:Int):Int:=
 if n<0\/1099511627776<n then 1 else
 if next-1-n<0then 0 else
 if 64<=next-1-n\/m.testBit (next-1-n).toNat=true then 11 else 0
def Rc (m k:Nat)(hm:m<18446744073709551616)(b:k<64):(bits .and .u64 ((m:Int)/2^k) 1==1)=m.testBit k:=by
 have e:((m:Int)/2^k)=((m/2^k:Nat):Int):=pu
 rw[e,show(1:Int)=((1:Nat):Int)from rfl,rY _ _ (kO (qQ _ _) hm) pm,nat_mask1,Nat.testBit_eq_decide_div_mod_eq];rw[Bool.eq_iff_iff];simp;omega
def aca (m k:Nat)(hm:m<18446744073709551616)(b:k<64):bits .or .u64 (m:Int) (IntKind.u64.wrap (2^k))=((m|||2^k:Nat):Int):=by
 have d:(2:Nat)^k<18446744073709551616:=by have:=Nat.pow_lt_pow_right (a:=2) pm b;simpa using this
 have e:IntKind.u64.wrap ((2:Int)^k)=((2^k:Nat):Int):=by
  rw[oz];have:((2:Int)^k)=((2^k:Nat):Int):=pu
  rw[this];generalize (2:Nat)^k=c at*;omega
 rw[e,tR _ _ hm d]
def EA (X:Int)(N:Nat)(h:X=(N:Int)):bits .or .u64 (IntKind.u64.wrap X) 1=((N%18446744073709551616|||1:Nat):Int):=by rw[h,oz,show((N:Int)%18446744073709551616)=((N%18446744073709551616:Nat):Int)from pu,show(1:Int)=((1:Nat):Int)from rfl,tR _ _ pm pm]
def Bd {n:Int}(h:gu next m n=0):0<=n/\n<=1099511627776:=by
 unfold gu at h;by_cases b:n<0\/1099511627776<n
 ·rw[av b]at h;omega
 omega
def JT {n:Int}(h:gu next m n=0)(f:n<next):next-1-n<64:=by
 obtain ⟨a,b⟩:=Bd h;unfold gu at h;rw[au pm,au pm]at h;by_cases d:64<=next-1-n
 ·rw[av (Or.inl d)]at h;omega
 omega
def nt(next:Int)(m:Nat)(n:Int):Nat:=(m*2^(min (n+1-next) 64).toNat)%18446744073709551616|||1
def jE(next:Int)(m:Nat)(n:Int):Int×Nat:=
 if gu next m n≠0then(next,m)else if n<next then(next,m|||2^(next-1-n).toNat)else(n+1,nt next m n)
def acz (next:Int)(m:Nat)(n:Int):nt next m n<18446744073709551616:=by unfold nt;have:=IK;rw[this];exact ow (dQ _ pm) pm
def acy (next:Int)(m:Nat)(n:Int)(h0:0<=next)(h1:next<=1099511627777)(hm:m<18446744073709551616):
 next<=(jE next m n).1/\(jE next m n).1<=1099511627777/\(jE next m n).2<18446744073709551616/\(jE next m n).1<=max next (n+1):=by
 unfold jE;by_cases d:gu next m n=0
 ·obtain ⟨a,b⟩:=Bd d;rw[au (by simpa using d)];by_cases f:n<next
  ·rw[av f];have:=JT d f;refine ⟨pu,h1,?_,pp⟩;have e:=IK;rw[e]at hm⊢;exact ow hm (Nat.pow_lt_pow_right pm pm)
  rw[au f];exact ⟨pp,pp,acz _ _ _,pp⟩
 rw[av d];exact ⟨pu,h1,hm,pp⟩
def SL (i:Nat):Nat.testBit 1 i=decide (i=0):=by
 cases i with
 |zero=>rfl
 |succ i=>simp[Nat.testBit_succ]
def JU (next:Int)(m:Nat)(n:Int)(h:next<=n)(i:Nat)(g:i<64):
 (nt next m n).testBit i=(decide (i=0)||(decide (n+1-next<=i)&&m.testBit (i-(n+1-next).toNat))):=by
 unfold nt;rw[Nat.testBit_or,show(18446744073709551616:Nat)=2^64from IK,Nat.testBit_mod_two_pow,Nat.testBit_mul_two_pow];rw[SL];simp only[g,zg,BW];rw[Bool.or_comm];congr 1;by_cases d:n+1-next<=i
 ·have f:(min (n+1-next) 64).toNat=(n+1-next).toNat:=pm
  have b:(n+1-next).toNat<=i:=pm
  rw[f];simp[b,d]
 have b:¬(min (n+1-next) 64).toNat<=i:=pm
 simp[b,d]
def zr(next:Int)(m:Nat)(seen:Int->Bool):Prop:=
 ∀x,seen x=true->0<=x/\x<next/\(next-1-x<64->m.testBit (next-1-x).toNat=true)
def Pu (m k i:Nat):(m|||2^k).testBit i=(m.testBit i||decide (k=i)):=by rw[Nat.testBit_or,Nat.testBit_two_pow]
def zr.take {seen:Int->Bool}(h:zr next m seen){n:Int}(o:gu next m n=0):
 zr (jE next m n).1 (jE next m n).2 (λx=>seen x||decide (x=n)):=by
 obtain ⟨a,b⟩:=Bd o;unfold jE;rw[au (by simpa using o)];intro x g;by_cases f:n<next
 ·rw[av f];have z:=JT o f;by_cases d:x=n
  ·subst d;refine ⟨a,f,λ_=>?_⟩;simp
  simp[d]at g;obtain ⟨j,q,l⟩:=h x g;refine ⟨j,q,λp=>?_⟩;simp only[Pu,l p,Bool.true_or]
 rw[au f];by_cases d:x=n
 ·subst d;refine ⟨a,pp,λ_=>?_⟩;simp only;rw[JU _ _ _ pm _ pm];simp
 simp[d]at g;obtain ⟨j,q,l⟩:=h x g;refine ⟨j,pp,λp=>?_⟩;simp only at p⊢;rw[JU _ _ _ pm _ pm];have u:(n+1-1-x).toNat-(n+1-next).toNat=(next-1-x).toNat:=pm
 have y:n+1-next<=((n+1-1-x).toNat:Int):=pm
 rw[u,l pm,tK y,Bool.and_true,zf]
def vK(next:Int)(m:Nat)(from_:Int)(seen:Int->Bool):Prop:=
 ∀x,from_<=x->x<from_+64->next<=from_+64/\(seen x=true->x<next)/\(x<next->m.testBit (next-1-x).toNat=seen x)
def vK.check {seen:Int->Bool}(h:vK next m from_ seen){x:Int}(h0:from_<=x)(h1:x<from_+64)(g:0<=from_)(j:from_<549755813888):
 gu next m x=if seen x=true then 11 else 0:=by
 obtain ⟨a,b,c⟩:=h x h0 h1;unfold gu;rw[au pm];by_cases f:x<next
 ·rw[au pm,c f];by_cases d:seen x=true
  ·rw[av (Or.inr d),av d]
  rw[au (by simp at d;simp[d];omega),au d]
 rw[av pm];rw[au (λd=>f (b d))]
def vK.take {seen:Int->Bool}(h:vK next m from_ seen){n:Int}(h0:from_<=n)(h1:n<from_+64)(z:0<=from_)(C:from_<549755813888):
 vK (jE next m n).1 (jE next m n).2 from_ (λx=>seen x||decide (x=n)):=by
 intro x x0 x1;obtain ⟨a,b,c⟩:=h x x0 x1;obtain ⟨I,J,R⟩:=h n h0 h1;have o:=h.check h0 h1 z C;unfold jE;by_cases l:seen n=true
 ·rw[av l]at o;rw[av pm];have e:(seen x||decide (x=n))=seen x:=by
   by_cases d:x=n
   ·subst d;simp[l]
   simp[d]
  simp only[e];exact ⟨a,b,c⟩
 rw[au l]at o;rw[au pm];by_cases j:n<next
 ·rw[av j];refine ⟨a,λd=>?_,λd=>?_⟩
  ·by_cases f:x=n
   ·subst f;exact j
   simp[f]at d;exact b d
  simp only at d⊢;rw[Pu,c d];congr 1;have:(next-1-n).toNat=(next-1-x).toNat↔x=n:=pm
  simp[this]
 rw[au j];refine ⟨pp,λd=>?_,λd=>?_⟩
 ·by_cases f:x=n
  ·subst f;simp;omega
  simp[f]at d;have:=b d;simp;omega
 simp only at d⊢;rw[JU _ _ _ pm _ pm];by_cases f:x=n
 ·subst f;simp
 have u:¬(n+1-1-x).toNat=0:=pm
 simp only[u,f,decide_false,jX,Bool.or_false];by_cases q:x<next
 ·have y:(n+1-1-x).toNat-(n+1-next).toNat=(next-1-x).toNat:=pm
  have g:n+1-next<=((n+1-1-x).toNat:Int):=pm
  rw[y,c q,tK g,BW]
 have g:¬n+1-next<=((n+1-1-x).toNat:Int):=pm
 have:seen x=false:=by
  by_cases p:seen x=true
  ·exact absurd (b p) q
  simpa using p
 rw[BQ g,this,Bool.false_and]
def vK.start (h:next<=from_):vK next m from_ (λ_=>false):=by intro x b d;exact ⟨pm,pu,λf=>pm⟩
def zr.start (m:Nat)(next:Int):zr next m (λ_=>false):=by intro x b;simp at b
def fN(M:Pf->Bool)(V:Pf->Int):Own:=λp=>if M p then some (V p)else none
def ly(o:Option Nat):Value:= .pointer (o.map λb=>⟨b,0,none⟩)
def gJ(N:Pf->Option Nat)(M:Pf->Bool)(V:Pf->Int)(p:Pf):Lv:=[ly (N (p++[false])),ly (N (p++[true])), .bool (M p),ar (V p)]
def fk(w:World)(tb:Nat)(N:Pf->Option Nat)(M:Pf->Bool)(V:Pf->Int)(many:Nat)(p:Pf)(b:Nat):Prop:=
 if p=[]then ab w b 181 (gJ N M V p++[ar many])else ab w b 179 (gJ N M V p)
structure Tree(w:World)(tb:Nat)(N:Pf->Option Nat)(M:Pf->Bool)(V:Pf->Int)(many:Nat):Prop where
 root:N []=some tb
 inj:∀p q b,N p=some b->N q=some b->p=q
 pre:∀p c,N p=none->N (p++[c])=none
 len:∀p b,N p=some b->p.length<=32
 mark:∀p,M p=true->N p≠none
 val:∀p,0<=V p/\V p<8
 bu:∀p b,N p=some b->fk w tb N M V many p b
def fk.cells {N:Pf->Option Nat}{M:Pf->Bool}{V:Pf->Int}{many:Nat}{p:Pf}{b:Nat}(h:fk w tb N M V many p b):
 w.cell? ⟨b,0,none⟩=some (ly (N (p++[false])))/\w.cell? ⟨b,1,none⟩=some (ly (N (p++[true])))/\w.cell? ⟨b,2,none⟩=some (.bool (M p))/\w.cell? ⟨b,3,none⟩=some (ar (V p)):=by
 unfold fk at h;split at h
 ·exact ⟨ab.cell h 0,ab.cell h 1,ab.cell h 2,ab.cell h 3⟩
 exact ⟨ab.cell h 0,ab.cell h 1,ab.cell h 2,ab.cell h 3⟩
def fk.frozen {N:Pf->Option Nat}{M:Pf->Bool}{V:Pf->Int}{many:Nat}{p:Pf}{b:Nat}(h:fk w tb N M V many p b)(i:Nat):w.frozen? ⟨b,i,none⟩=false:=by
 unfold fk at h;split at h
 ·exact ab.frozen h i
 exact ab.frozen h i
def fk.lt {N:Pf->Option Nat}{M:Pf->Bool}{V:Pf->Int}{many:Nat}{p:Pf}{b:Nat}(h:fk w tb N M V many p b):b<w.heap.size:=by
 unfold fk at h;split at h
 ·exact ab.lt h
 exact ab.lt h
def fk.kept {N:Pf->Option Nat}{M:Pf->Bool}{V:Pf->Int}{many:Nat}{p:Pf}{b:Nat}(h:fk w tb N M V many p b)(g:w.grownBy w' r)(d:some b≠r):fk w' tb N M V many p b:=by
 unfold fk at h⊢;split at h
 ·rename_i e;rw[av e];exact ab.kept h g d
 rename_i e;rw[au e];exact ab.kept h g d
def fk.obj {N:Pf->Option Nat}{M:Pf->Bool}{V:Pf->Int}{many:Nat}{p:Pf}{b:Nat}(h:fk w tb N M V many p b):∃cs t,w.heap[b]?=some (.cells cs t (0,0))/\(t=181\/t=179):=by
 unfold fk at h;split at h
 ·exact ⟨_,_,h,Or.inl rfl⟩
 exact ⟨_,_,h,Or.inr rfl⟩
def Tree.kept {N:Pf->Option Nat}{M:Pf->Bool}{V:Pf->Int}{many:Nat}(h:Tree w tb N M V many)(g:w.grownBy w' r)(f:∀p b,N p=some b->some b≠r):Tree w' tb N M V many:=
 {h with bu:=λp b d=>(h.bu p b d).kept g (f p b d)}
def Tree.new {N:Pf->Option Nat}{M:Pf->Bool}{V:Pf->Int}{many:Nat}(h:Tree w tb N M V many)(g:w.grownBy w' none):Tree w' tb N M V many:=h.kept g (λp b d=>pu)
def Tree.many {w}{tb:Nat}{N:Pf->Option Nat}{M:Pf->Bool}{V:Pf->Int}{many:Nat}(h:Tree w tb N M V many):w.cell? ⟨tb,4,none⟩=some (ar many)/\w.frozen? ⟨tb,4,none⟩=false:=by have b:=h.bu [] tb h.root;unfold fk at b;rw[av rfl]at b;exact ⟨ab.cell b 4,ab.frozen b 4⟩
def jC(N:Pf->Option Nat)(p:Pf)(b:Nat):Pf->Option Nat:=λq=>if q=p then some b else N q
def uP(M:Pf->Bool)(p:Pf)(v:Bool):Pf->Bool:=λq=>if q=p then v else M q
def jD(V:Pf->Int)(p:Pf)(v:Int):Pf->Int:=λq=>if q=p then v else V q
def aax {p q:Pf}{c d:Bool}(h:p++[c]=q++[d]):p=q/\c=d:=by have:=List.append_inj' h rfl;exact ⟨this.1,by simpa using this.2⟩
def Tree.Jl {N:Pf->Option Nat}{M:Pf->Bool}{V:Pf->Int}{many:Nat}(h:Tree w tb N M V many)(k:Nat):Tree (w.setCell ⟨tb,4,none⟩ (ar k)) tb N M V k:=
 {h with
  bu:=λp b d=>by
   have q:=h.bu p b d;by_cases e:p=[]
   ·subst e;obtain rfl:b=tb:=by rw[h.root]at d;exact (aH d).symm
    unfold fk at q⊢;rw[av rfl]at q⊢;exact ab.set q 4 _
   have f:b≠tb:=λx=>e (h.inj p [] tb (x▸d) h.root);unfold fk at q⊢;rw[au e]at q⊢;exact ab.kept q (aw (ak w (some tb)) 4 _) (by simpa using f)}
def Tree.Qu {N:Pf->Option Nat}{M:Pf->Bool}{V:Pf->Int}{many:Nat}(h:Tree w tb N M V many)(p:Pf)(b:Nat)(j:N p=some b)(v:Bool):Tree (w.setCell ⟨b,2,none⟩ (.bool v)) tb N (uP M p v) V many:=
 {h with
  mark:=λq l=>by
   unfold uP at l;split at l
   ·rename_i e;rw[e,j];simp
   exact h.mark q l
  bu:=λq c f=>by
   have k:=h.bu q c f;by_cases e:q=p
   ·subst e;obtain rfl:c=b:=by rw[j]at f;exact (aH f).symm
    unfold fk at k⊢;have d:gJ N (uP M q v) V q=(gJ N M V q).set 2 (.bool v):=by unfold gJ uP;simp
    split at k
    ·rename_i g;rw[av g,d];exact ab.set k 2 _
    rename_i g;rw[au g,d];exact ab.set k 2 _
   have u:c≠b:=λx=>e (h.inj q p b (x▸f) j);have o:=k.kept (aw (ak w (some b)) 2 (.bool v)) (by simpa using u);unfold fk at o⊢;have d:gJ N (uP M p v) V q=gJ N M V q:=by unfold gJ uP;simp[e]
   rw[d];exact o}
def Tree.Qv {N:Pf->Option Nat}{M:Pf->Bool}{V:Pf->Int}{many:Nat}(h:Tree w tb N M V many)(p:Pf)(b:Nat)(j:N p=some b)(v:Int)(u:0<=v/\v<8):Tree (w.setCell ⟨b,3,none⟩ (ar v)) tb N M (jD V p v) many:=
 {h with
  val:=λq=>by
   unfold jD;split
   ·exact u
   exact h.val q
  bu:=λq c f=>by
   have k:=h.bu q c f;by_cases e:q=p
   ·subst e;obtain rfl:c=b:=by rw[j]at f;exact (aH f).symm
    unfold fk at k⊢;have d:gJ N M (jD V q v) q=(gJ N M V q).set 3 (ar v):=by unfold gJ jD;simp
    split at k
    ·rename_i g;rw[av g,d];exact ab.set k 3 _
    rename_i g;rw[au g,d];exact ab.set k 3 _
   have o:c≠b:=λx=>e (h.inj q p b (x▸f) j);have l:=k.kept (aw (ak w (some b)) 3 (ar v)) (by simpa using o);unfold fk at l⊢;have d:gJ N M (jD V p v) q=gJ N M V q:=by unfold gJ jD;simp[e]
   rw[d];exact l}
def Tree.aak {N:Pf->Option Nat}{M:Pf->Bool}{V:Pf->Int}{many:Nat}(h:Tree w tb N M V many)(p:Pf)(b:Nat)(y:N p=some b)(c:Bool)(hc:N (p++[c])=none)(hl:p.length<32):
 Tree ((w.alloc (.cells #[.pointer none, .pointer none, .bool false,ar 0] 179)).setCell ⟨b,ji c,none⟩ (dy w.heap.size 0)) tb (jC N (p++[c]) w.heap.size) M (jD V (p++[c]) 0) many:=by
 have U:p≠p++[c]:=λe=>by have:=iQ List.length e;simp at this
 have J:∀q d,N q=some d->d<w.heap.size:=λq d hd=>(h.bu q d hd).lt;have below:∀d,N (p++[c]++[d])=none:=λd=>h.pre _ _ hc;have j:∀(q:Pf) (d:Bool),¬(q=p/\d=c)->jC N (p++[c]) w.heap.size (q++[d])=N (q++[d]):=λq d R=>by unfold jC;rw[au];intro e;exact R (aax e)
 have hg:w.grownBy ((w.alloc (.cells #[.pointer none, .pointer none, .bool false,ar 0] 179)).setCell ⟨b,ji c,none⟩ (dy w.heap.size 0)) (some b):=
  aw (eo (aT w _ none)) _ _
 have a2:=J p b y;refine ⟨?_,?_,?_,?_,?_,?_,?_⟩
 ·unfold jC;rw[au pu,h.root]
 ·intro q r d f o;unfold jC at f o;split at f
  ·rename_i C;split at o
   ·rename_i l;rw[C,l]
   have:=J r d o;have:=aH f;omega
  split at o
  ·have:=J q d f;have:=aH o;omega
  exact h.inj q r d f o
 ·intro q d f;by_cases e:q=p/\d=c
  ·obtain ⟨rfl,rfl⟩:=e;unfold jC at f;rw[au U,y]at f;cases f
  rw[j q d e];apply h.pre;unfold jC at f;split at f
  ·cases f
  exact f
 ·intro q d f;unfold jC at f;split at f
  ·rename_i e;rw[e];simp;omega
  exact h.len q d f
 ·intro q f;unfold jC;split
  ·simp
  exact h.mark q f
 ·intro q;unfold jD;split
  ·omega
  exact h.val q
 intro q d f;by_cases e:q=p++[c]
 ·subst e;have:d=w.heap.size:=by unfold jC at f;rw[av rfl]at f;exact (aH f).symm
  subst this;have R:fk (w.alloc (.cells #[.pointer none, .pointer none, .bool false,ar 0] 179)) tb (jC N (p++[c]) w.heap.size) M (jD V (p++[c]) 0) many (p++[c]) w.heap.size:=by
   unfold fk;rw[au pu];have hM:M (p++[c])=false:=by
    cases hm:M (p++[c])with
    |false=>rfl
    |true=>exact absurd hc (h.mark _ hm)
   have C:gJ (jC N (p++[c]) w.heap.size) M (jD V (p++[c]) 0) (p++[c])=[.pointer none, .pointer none, .bool false,ar 0]:=by unfold gJ;rw[j _ _ (λe=>U e.1.symm),j _ _ (λe=>U e.1.symm),below,below,hM];unfold jD ly;simp
   rw[C];exact ab.new w _ _
  exact R.kept (aw (ak _ (some b)) (ji c) _) pp
 have z:N q=some d:=by unfold jC at f;rw[au e]at f;exact f
 have k:=h.bu q d z;have hV:jD V (p++[c]) 0 q=V q:=by unfold jD;rw[au e]
 by_cases l:q=p
 ·subst l;obtain rfl:d=b:=by rw[y]at z;exact (aH z).symm
  have g:=k.kept (aT w (.cells #[.pointer none, .pointer none, .bool false,ar 0] 179) none) pu;have u:gJ (jC N (q++[c]) w.heap.size) M (jD V (q++[c]) 0) q=(gJ N M V q).set (ji c) (dy w.heap.size 0):=by
   unfold gJ;rw[hV];cases c
   ·rw[j q true pu];unfold jC ly ji;simp
   rw[j q false pu];unfold jC ly ji;simp
  unfold fk at g⊢;have a1:=FL c;split at g
  ·rename_i I;rw[av I,u];have e5:(gJ N M V q).set (ji c) (Value.pointer (some ⟨w.heap.size,0,none⟩))++[Value.int .i64 many]=(gJ N M V q++[Value.int .i64 many]).set (ji c) (Value.pointer (some ⟨w.heap.size,0,none⟩)):=by rw[List.set_append_left _ _ (by show ji c<4;omega)]
   rw[e5];exact ab.set g _ _
  rename_i I;rw[au I,u];exact ab.set g _ _
 have a0:d≠b:=λx=>l (h.inj q p b (x▸z) y);have g:=k.kept hg (by simpa using a0);have u:gJ (jC N (p++[c]) w.heap.size) M (jD V (p++[c]) 0) q=gJ N M V q:=by unfold gJ;rw[hV,j q false (λx=>l x.1),j q true (λx=>l x.1)]
 unfold fk at g⊢;rw[u];exact g
def E3 {N:Pf->Option Nat}(d:∀p c,N p=none->N (p++[c])=none)(p:Pf)(h:N p=none)(r:Pf):N (p++r)=none:=by
 induction r using QG with
 |h0=>rwa[ev]
 |h1 r b f=>rw[<-dM];exact d _ _ f
def I8 {N:Pf->Option Nat}{M:Pf->Bool}{V:Pf->Int}(d:∀p c,N p=none->N (p++[c])=none)(b:∀p,M p=true->N p≠none)(p:Pf)(h:N p=none)(r:Pf):fN M V (p++r)=none:=by unfold fN;rw[au];exact λhm=>b _ hm (E3 d p h r)
def Wc w:Calls prog 63 #[] w λe w'=>e= .returned (dy w.heap.size 0)/\Tree w' w.heap.size (λp=>if p=[]then some w.heap.size else none) (λ_=>false) (λ_=>0) 0/\w.grownBy w' none:=by
 go_enter func63,ntmps63;go_wp2;go_ret;have j:=aO w (.cells #[.pointer none, .pointer none, .bool false,ar 0,ar 0] 181);refine ⟨rfl,⟨av rfl,?_,?_,?_,?_,?_,?_⟩,aT _ _ none⟩
 ·intro p q b d g;split at d
  ·split at g
   ·rename_i f h;rw[f,h]
   cases g
  cases d
 ·intro p c _;simp
 ·intro p b d;split at d
  ·rename_i e;rw[e];simp
  cases d
 ·intro p d;cases d
 ·intro p;omega
 intro p b d;split at d
 ·rename_i e;subst e;obtain rfl:=aH d;unfold fk;rw[av rfl];have f:gJ (λp=>if p=[]then some w.heap.size else none) (λ_=>false) (λ_=>0) []=[.pointer none, .pointer none, .bool false,ar 0]:=by unfold gJ ly;simp
  rw[f];exact j
 cases d
def Ra (a k:Nat)(b:a<4294967296):bits .and .u32 ((a:Int)/2^k) 1=((a/2^k%2:Nat):Int):=by
 have e:((a:Int)/2^k)=((a/2^k:Nat):Int):=pu
 rw[e,show(1:Int)=((1:Nat):Int)from rfl,u32_and_nat _ _ (kO (qQ _ _) b) pm,nat_mask1]
def Qc(o:Option Int):Value:= .tuple #[ar (o.getD 0), .bool o.isSome]
def jx(O:Own)(a:Nat):Nat->Option Int
 |0=>none
 |n+1=>match O (cV a n)with
  |some v=>some v
  |none=>jx O a n
def xV (O:Own)(a:Nat):∀n,jx O a (n+1)=vV O a n
 |0=>by show(match O (cV a 0)with|some v=>some v|none=>none)=O [];show(match O []with|some v=>some v|none=>none)=O [];cases O []<;>rfl
 |n+1=>by show(match O (cV a (n+1))with|some v=>some v|none=>jx O a (n+1))=_;rw[xV O a n,vV];rfl
def MZ (O:Own)(a n:Nat):∀m,n<=m->(∀j,n<=j->j<m->O (cV a j)=none)->jx O a m=jx O a n
 |0,h,_=>by
  obtain rfl:n=0:=pm
  rfl
 |m+1,h,b=>by
  by_cases q:n=m+1
  ·subst q;rfl
  show(match O (cV a m)with|some v=>some v|none=>jx O a m)=_;rw[b m pm (BO _)];exact MZ O a n m pm (λj d f=>b j d pm)
def Xq (M:Pf->Bool)(V:Pf->Int)(a i:Nat):jx (fN M V) a (i+1)=if M (cV a i)then some (V (cV a i))else jx (fN M V) a i:=by show(match fN M V (cV a i)with|some v=>some v|none=>jx (fN M V) a i)=_;unfold fN;cases M (cV a i)<;>rfl
def SN (a:Nat):∀i j,i<=j->∃r,cV a j=cV a i++r:=λi j h=>by
 induction j with
 |zero=>exact ⟨[],by rw[show i=0from pm];rfl⟩
 |succ j d=>
  by_cases q:i=j+1
  ·exact ⟨[],by rw[q,ev]⟩
  obtain ⟨r,b⟩:=d pm;exact ⟨r++[a/2^(31-j)%2==1],by rw[Cz,b,dM]⟩
def Wa w (tb:Nat)(N:Pf->Option Nat)(M:Pf->Bool)(V:Pf->Int)(many:Nat)(T:Tree w tb N M V many)(a:Nat)(ha:a<4294967296):
 Calls prog 69 #[dy tb 0,ay a] w λe w'=>e= .returned (Qc (vV (fN M V) a 32))/\w.grownBy w' none:=by
 go_enter func69,ntmps69;go_wp2_with fail;go_loopw [6,7,8,9] (λv6 v7 v8 J wr=>∃i:Nat,i<=32/\J=ar i/\v8=ly (N (cV a i))/\v6=ar ((jx (fN M V) a i).getD 0)/\v7= .bool (jx (fN M V) a i).isSome/\w.grownBy wr none) (λ_ _ _ J _=>33-(intOf J).toNat)
 case atStart=>exact ⟨0,pm,rfl,by show _=ly (N []);rw[T.root];rfl,rfl,rfl,ak _ _⟩
 case round=>
  obtain ⟨i,hi,rfl,rfl,rfl,rfl,h⟩:=hrel;cases hN:N (cV a i)with
  |none=>
   have R:vV (fN M V) a 32=jx (fN M V) a i:=by
    rw[<-xV];exact MZ _ _ _ _ pm λj U h2=>by obtain ⟨r,hr⟩:=SN a i j U;rw[hr];exact I8 T.pre T.mark _ hN r
   have g:=Hq R;clear R;generalize jx (fN M V) a i=x at*;unfold ly;simp only[vj];go_wp2;go_ret2;exact ⟨by rw[g.out];rfl,h⟩
  |some b=>
   obtain ⟨k0,k1,u,k3⟩:=((T.new h).bu _ b hN).cells;have d:=Xq M V a i;have p:=xV (fN M V) a 32;have hv:=T.val (cV a i);have f:=Cz a i;generalize jx (fN M V) a i=x at*;unfold ly;simp only[qP];by_cases a0:i=32
   ·subst a0;rw[d]at p;have g:=Hq p;clear p d f;cases hM:M (cV a 32)with
    |true=>rw[hM]at u g;go_wp2;go_ret2;exact ⟨by rw[<-g.out];rfl,h⟩
    |false=>rw[hM]at u g;go_wp2;go_ret2;exact ⟨by rw[<-g.out];rfl,h⟩
   have a1:((i:Int)==32)=false:=(by rw[dC];omega);obtain ⟨k,C⟩:=kq (31-i);have s1:IntKind.i64.wrap (31-(i:Int))=(k:Int):=by rw[show(31-(i:Int):Int)=(k:Int)from pm];exact dG _ pm
   have s2:(0:Int)<=(k:Int):=pm;have s3:((k:Int)).toNat=k:=pm;have y:=Ra a k ha;rw[<-C]at f;cases hM:M (cV a i)with
   |true=>
    rw[hM]at u d;simp only[sf]at d;go_wp2_with fail;have o:=Hq d;have l:=Hq f;have z:min k 32=k:=by clear d f;omega
    clear d f p C;rcases EL (a/2^k)with q|q;all_goals
     rw[q]at y l;have I:=y;rw[show(2:Int)^k=2^min k 32from by rw[z]]at I
     go_quiet (fail)
     go_wp2;go_roundw
     case rel=>exact ⟨i+1,pm,by go_num,by rw[l.out];rfl,by rw[o.out];try rfl,by rw[o.out];try rfl,iT h _⟩
     case measure=>simp[intOf];omega
   |false=>
    rw[hM]at u d;simp only[tG,oE]at d;go_wp2_with fail;have o:=Hq d;have l:=Hq f;have z:min k 32=k:=by clear d f;omega
    clear d f p C;rcases EL (a/2^k)with q|q;all_goals
     rw[q]at y l;have I:=y;rw[show(2:Int)^k=2^min k 32from by rw[z]]at I
     go_quiet (fail)
     go_wp2;go_roundw
     case rel=>exact ⟨i+1,pm,by go_num,by rw[l.out];rfl,by rw[o.out];try rfl,by rw[o.out];try rfl,iT h _⟩
     case measure=>simp[intOf];omega
def nE(o:Obj):Prop:=∃b f,o= .cells b 181 f\/o= .cells b 179 f
structure GT(B0:Nat)(w w':World):Prop where
 os:w'.os=w.os
 tape:w'.tape=w.tape
 output:w'.output=w.output
 size:w.heap.size<=w'.heap.size
 low:∀k,k<w.heap.size->k<B0->w'.heap[k]?=w.heap[k]?
 qq:∀(k:Nat) (o:Obj),w.heap[k]?=some o->¬nE o->w'.heap[k]?=some o
def GT.trans {a b}(h:GT B0 a b)(k:GT B0 b c):GT B0 a c:=
 ⟨k.os.trans h.os,k.tape.trans h.tape,k.output.trans h.output,bJ h.size k.size,λi f d=>(k.low i (fW f h.size) d).trans (h.low i f d),λi o f d=>k.qq i o (h.qq i o f d) d⟩
def GT.new {a b:World}(g:a.grownBy b none):GT B0 a b:=⟨g.os,g.tape,g.output,g.size,λi d _=>g.block i d pu,λi o d _=>(g.block i (kE d) pu).trans d⟩
def GT.more {a b}(h:GT B0 a b)(g:b.grownBy c none):GT B0 a c:=h.trans (GT.new g)
def GT.grown {a b:World}{o:Obj}(g:a.grownBy b (some k))(l:B0<=k)(j:a.heap[k]?=some o)(h:nE o):GT B0 a b:=
 ⟨g.os,g.tape,g.output,g.size,λi d f=>g.block i d pp,λi p d f=>(g.block i (kE d) (by intro e;obtain rfl:=aH e;rw[j]at d;exact f (aH d▸h))).trans d⟩
def fk.DD {N:Pf->Option Nat}{M:Pf->Bool}{V:Pf->Int}{many:Nat}{p:Pf}{b:Nat}(h:fk w tb N M V many p b):∃o,w.heap[b]?=some o/\nE o:=by
 obtain ⟨g,t,d,f⟩:=h.obj;rcases f with rfl|rfl
 ·exact ⟨_,d,_,_,Or.inl rfl⟩
 exact ⟨_,d,_,_,Or.inr rfl⟩
def Tree.xZ {N:Pf->Option Nat}{M:Pf->Bool}{V:Pf->Int}{many:Nat}(T:Tree w tb N M V many)(h:∀p b,N p=some b->B0<=b){p:Pf}{b:Nat}(d:N p=some b)(i:Nat) v:GT B0 w (w.setCell ⟨b,i,none⟩ v):=by obtain ⟨o,f,g⟩:=(T.bu p b d).DD;exact GT.grown (aw (ak w (some b)) i v) (h p b d) f g
def TB(B0:Nat)(w:World)(tb:Nat)(O:Own):Prop:=∃N M V,Tree w tb N M V (iw O).length/\(∀p b,N p=some b->B0<=b)/\fN M V=O/\(iw O).length<=64
def TB.kept {O:Own}(h:TB B0 w tb O)(g:w.grownBy w' r)(u:∀k,r=some k->∀o,w.heap[k]?=some o->¬nE o):TB B0 w' tb O:=by
 obtain ⟨N,M,V,T,q,j⟩:=h;exact ⟨N,M,V,T.kept g (λp b l e=>by obtain ⟨o,d,f⟩:=(T.bu p b l).DD;exact u b e.symm o d f),q,j⟩
def TB.new {O:Own}(h:TB B0 w tb O)(g:w.grownBy w' none):TB B0 w' tb O:=h.kept g (λk e=>by cases e)
def TB.lt {O:Own}(h:TB B0 w tb O):B0<=tb/\tb<w.heap.size:=by obtain ⟨N,M,V,T,b,d⟩:=h;exact ⟨b _ _ T.root,(T.bu _ _ T.root).lt⟩
def I7 (M:Pf->Bool)(V:Pf->Int)(p:Pf)(v:Int)(h:M p=false):fN M (jD V p v)=fN M V:=by
 funext q;unfold fN jD;by_cases e:q=p
 ·subst e;rw[h];rfl
 rw[au e]
def VZ w (B0 tb:Nat)(N:Pf->Option Nat)(M:Pf->Bool)(V:Pf->Int)(many:Nat)(T:Tree w tb N M V many)(a4:∀p b,N p=some b->B0<=b)(a n:Nat)(ha:a<4294967296)(hn:n<=32):
 Calls prog 115 #[dy tb 0, .agg #[ay a,ar n]] w λe w'=>∃b f h,e= .returned (dy b 0)/\f (cV a n)=some b/\Tree w' tb f M h many/\fN M h=fN M V/\(∀p b,f p=some b->B0<=b)/\GT B0 w w':=by
 have a8:B0<=w.heap.size:=pO (kO (a4 _ _ T.root) (T.bu _ _ T.root).lt);go_enter func115,ntmps115;go_wp2_with fail;go_loopw [5,13] (λv5 a1 wr=>∃(i b:Nat) (f:Pf->Option Nat) (h:Pf->Int),i<=n/\a1=ar i/\v5=dy b 0/\f (cV a i)=some b/\Tree wr tb f M h many/\fN M h=fN M V/\(∀p b,f p=some b->B0<=b)/\GT B0 w wr/\ab wr w.heap.size 88 [ay a,ar n]) (λ_ a1 _=>n-(intOf a1).toNat)
 case atStart=>exact ⟨0,tb,N,V,pm,rfl,rfl,T.root,T.new (aT _ _ none),rfl,a4,GT.new (aT _ _ none),ab.new _ _ _⟩
 case round=>
  obtain ⟨i,b,f,h,hi,rfl,rfl,l,y,hO,hl,hg,R⟩:=hrel;by_cases b1:i<n
  ·obtain ⟨k,a3⟩:=kq (31-i);have s1:IntKind.i64.wrap (31-(i:Int))=(k:Int):=by rw[show(31-(i:Int):Int)=(k:Int)from pm];exact dG _ pm
   have s2:(0:Int)<=(k:Int):=pm;have s3:((k:Int)).toNat=k:=pm;have a2:min k 32=k:=pm;have s4:=Ra a k ha;have g:=Cz a i;rw[<-a3]at g;obtain ⟨o,q,_,_⟩:=(y.bu _ b l).cells;have a6:=(y.bu _ b l).frozen 0;have a7:=(y.bu _ b l).frozen 1;have p0:=R.cell 0;have p1:=R.cell 1;have a9:=(y.bu _ b l).lt;have I:=Hq y;have HO:=Hq hO;have HL:=Hq hl;have HG:=Hq hg;have HP:=Hq R;have b0:=Hq R.lt;have HI:Hid (i<32):=Hq pm;clear y hO hl hg R a3;have C:∀c:Bool,cV a (i+1)=cV a i++[c]->f (cV a i++[c])=none->
    Hid (∃(j:Nat) (u:Pf->Option Nat) (J:Pf->Int),j=wr.heap.size/\u (cV a (i+1))=some j/\Tree ((wr.setCell ⟨b,ji c,none⟩ (dy wr.heap.size 0)).alloc (.cells #[.pointer none, .pointer none, .bool false,ar 0] 179)) tb u M J many/\fN M J=fN M V/\(∀p b,u p=some b->B0<=b)/\GT B0 w ((wr.setCell ⟨b,ji c,none⟩ (dy wr.heap.size 0)).alloc (.cells #[.pointer none, .pointer none, .bool false,ar 0] 179))/\
     ab ((wr.setCell ⟨b,ji c,none⟩ (dy wr.heap.size 0)).alloc (.cells #[.pointer none, .pointer none, .bool false,ar 0] 179)) w.heap.size 88 [ay a,ar n]):=λc U a5=>by
    rw[<-World.setCell_alloc_past _ _ _ _ a9];have a':(cV a i).length<32:=by rw[vM];exact HI.out
    have b3:cV a i++[c]≠cV a i:=λe=>by have:=iQ List.length e;simp at this
    have b4:B0<=wr.heap.size:=bJ a8 HG.out.size;have g1:=aT wr (.cells #[.pointer none, .pointer none, .bool false,ar 0] 179) none;have g2:=aw (ak (wr.alloc (.cells #[.pointer none, .pointer none, .bool false,ar 0] 179)) (some b)) (ji c) (dy wr.heap.size 0);refine Hq ⟨wr.heap.size,jC f (cV a i++[c]) wr.heap.size,jD h (cV a i++[c]) 0,rfl,?_,I.out.aak _ b l c a5 a',?_,?_,?_,?_⟩
    ·rw[U];unfold jC;rw[av rfl]
    ·rw[I7 _ _ _ _ (by
      cases hm:M (cV a i++[c])with
      |false=>rfl
      |true=>exact absurd a5 (I.out.mark _ hm)),HO.out]
    ·intro p d hp;unfold jC at hp;split at hp
     ·have:=aH hp;omega
     exact HL.out p d hp
    ·exact (HG.out.more g1).trans (Tree.xZ (I.out.new g1) HL.out l _ _)
    exact (HP.out.kept g1 nofun).kept g2 (by intro e;have e:=aH e;have h1:=HP.out;obtain ⟨cs,t,z,h3⟩:=(I.out.bu _ b l).obj;rw[<-e,h1]at z;injection z with z;injection z with _ z _;rcases h3 with h3|h3<;>rw[h3]at z<;>exact absurd z ut)
   rcases EL (a/2^k)with U|U
   ·rw[U]at s4 g;have s5:=s4;rw[show(2:Int)^k=2^min k 32from by rw[a2]]at s5;cases hN2:f (cV a i++[false])with
    |none=>
     have H:=C false g hN2;rw[hN2]at o;unfold ly at o;simp only[vj]at o;clear C q a7 g;go_wp2;go_roundw
     case rel=>obtain ⟨j,u,J,rfl,x1,x2,x3,x4,x5,x6⟩:=H.out;exact ⟨i+1,_,u,J,pm,by go_num,rfl,x1,x2,x3,x4,x5,x6⟩
     case measure=>simp[intOf];omega
    |some j=>
     rw[hN2]at o;unfold ly at o;simp only[qP]at o;have a0:=Hq g;clear C q a7 g;go_wp2;go_roundw
     case rel=>exact ⟨i+1,j,f,h,pm,by go_num,rfl,by rw[a0.out];exact hN2,I.out,HO.out,HL.out,HG.out,HP.out⟩
     case measure=>simp[intOf];omega
   rw[U]at s4 g;have s5:=s4;rw[show(2:Int)^k=2^min k 32from by rw[a2]]at s5;cases hN2:f (cV a i++[true])with
   |none=>
    have H:=C true g hN2;rw[hN2]at q;unfold ly at q;simp only[vj]at q;clear C o a6 g;go_wp2;go_roundw
    case rel=>obtain ⟨j,u,J,rfl,x1,x2,x3,x4,x5,x6⟩:=H.out;exact ⟨i+1,_,u,J,pm,by go_num,rfl,x1,x2,x3,x4,x5,x6⟩
    case measure=>simp[intOf];omega
   |some j=>
    rw[hN2]at q;unfold ly at q;simp only[qP]at q;have a0:=Hq g;clear C o a6 g;go_wp2;go_roundw
    case rel=>exact ⟨i+1,j,f,h,pm,by go_num,rfl,by rw[a0.out];exact hN2,I.out,HO.out,HL.out,HG.out,HP.out⟩
    case measure=>simp[intOf];omega
  obtain rfl:i=n:=pm
  go_wp2;go_ret;exact ⟨b,f,h,rfl,l,y,hO,hl,hg⟩
end
section
def N3(x:Nat):Value:= .agg #[cM (x%18446744073709551616:Nat),cM (x/18446744073709551616%18446744073709551616:Nat),cM (x/18446744073709551616/18446744073709551616%18446744073709551616:Nat)]
def aaY (x y:Nat):∃c0 c1:Nat,c0<=1/\c1<=1/\c0=(x%18446744073709551616+y%18446744073709551616)/18446744073709551616/\
 (x%18446744073709551616+y%18446744073709551616)%18446744073709551616=(x+y)%18446744073709551616/\
 c1=(x/18446744073709551616%18446744073709551616+y/18446744073709551616%18446744073709551616+c0)/18446744073709551616/\
 (x/18446744073709551616%18446744073709551616+y/18446744073709551616%18446744073709551616+c0)%18446744073709551616=(x+y)/18446744073709551616%18446744073709551616/\
 (x/18446744073709551616/18446744073709551616%18446744073709551616+y/18446744073709551616/18446744073709551616%18446744073709551616+c1)%18446744073709551616=(x+y)/18446744073709551616/18446744073709551616%18446744073709551616:=by
 have b:(x+y)/18446744073709551616=x/18446744073709551616+y/18446744073709551616+(x%18446744073709551616+y%18446744073709551616)/18446744073709551616:=pm
 refine ⟨_,_,?_,?_,rfl,?_,rfl,?_,?_⟩
 ·omega
 ·omega
 ·omega
 ·rw[b];omega
 rw[b];have f:(x%18446744073709551616+y%18446744073709551616)/18446744073709551616<=1:=pm
 generalize (x%18446744073709551616+y%18446744073709551616)/18446744073709551616=c at*;generalize x/18446744073709551616=X;generalize y/18446744073709551616=Y;have d:(X+Y+c)/18446744073709551616=X/18446744073709551616+Y/18446744073709551616+(X%18446744073709551616+Y%18446744073709551616+c)/18446744073709551616:=pm
 rw[d];omega
def kI(x:Nat):Nat:=x%1361129467683753853853498429727072845824+5*(x/1361129467683753853853498429727072845824)%18446744073709551616
def tr(x r:Nat):Nat:=kI ((x*r%1361129467683753853853498429727072845824+5*(x*r/1361129467683753853853498429727072845824))%6277101735386680763835789423207666416102355444464034512896)
def uI(x:Nat):Nat:=
 let y:=kI x
 let m:=y+5
 if 0<m/18446744073709551616/18446744073709551616%18446744073709551616/4then m%1361129467683753853853498429727072845824 else y
def E9 (a b c:Nat)(f:a<18446744073709551616)(g:b<18446744073709551616)(h:c<18446744073709551616)(x:Nat)(j:x=a+18446744073709551616*b+340282366920938463463374607431768211456*c):
 x%18446744073709551616=a/\x/18446744073709551616%18446744073709551616=b/\x/18446744073709551616/18446744073709551616%18446744073709551616=c:=by
 have d:x/18446744073709551616=b+18446744073709551616*c:=pm
 refine ⟨pm,by rw[d];omega,by rw[d];omega⟩
def Rn (x a b c:Nat)(l:x<6277101735386680763835789423207666416102355444464034512896)(g:a=x%18446744073709551616)(h:b=x/18446744073709551616%18446744073709551616)(j:c=x/18446744073709551616/18446744073709551616%18446744073709551616):
 x=a+18446744073709551616*b+340282366920938463463374607431768211456*c/\a<18446744073709551616/\b<18446744073709551616/\c<18446744073709551616:=by
 have d:x/18446744073709551616<340282366920938463463374607431768211456:=pm
 have f:x/18446744073709551616/18446744073709551616<18446744073709551616:=pm
 refine ⟨?_,pm,pm,pm⟩;omega
def Nj (x a b c:Nat)(h:x=a+18446744073709551616*b+340282366920938463463374607431768211456*c)(d:a<18446744073709551616)(f:b<18446744073709551616):
 x%1361129467683753853853498429727072845824=a+18446744073709551616*b+340282366920938463463374607431768211456*(c%4)/\x/1361129467683753853853498429727072845824=c/4:=pm
def vH (a b c:Nat)(h:a<18446744073709551616)(j:b<18446744073709551616)(l:c<18446744073709551616):
 N3 (a+18446744073709551616*b+340282366920938463463374607431768211456*c)= .agg #[cM a,cM b,cM c]:=by
 obtain ⟨d,f,g⟩:=E9 a b c h j l _ rfl;unfold N3;rw[d,f,g]
def Kb (a:Nat)(b:a<18446744073709551616):N3 a= .agg #[cM a,cM 0,cM 0]:=by have:=vH a 0 0 b pm pm;simpa using this
def RM (a b:Nat)(d:a<18446744073709551616)(f:b<18446744073709551616):N3 (a+18446744073709551616*b)= .agg #[cM a,cM b,cM 0]:=by have:=vH a b 0 d f pm;simpa using this
def RK (x:Nat):N3 (x%6277101735386680763835789423207666416102355444464034512896)=N3 x:=by
 have b:x%6277101735386680763835789423207666416102355444464034512896%18446744073709551616=x%18446744073709551616:=pm
 have d:x%6277101735386680763835789423207666416102355444464034512896/18446744073709551616%18446744073709551616=x/18446744073709551616%18446744073709551616:=pm
 have f:x%6277101735386680763835789423207666416102355444464034512896/18446744073709551616/18446744073709551616%18446744073709551616=x/18446744073709551616/18446744073709551616%18446744073709551616:=pm
 unfold N3;rw[b,d,f]
end
section
open Go.RowKit
abbrev W4:=Nat×Nat×Nat×Nat
def kC(a b:Nat):Nat:=(a+b)%4294967296
def IY(s t:Nat):W4->W4
 |(a,b,c,d)=>
  let a:=kC a b
  let d:=eG (d^^^a) s
  let c:=kC c d
  let b:=eG (b^^^c) t
  (a,b,c,d)
def po(x:W4):W4:=IY 8 7 (IY 16 12 x)
def Fm:W4->Prop
 |(a,b,c,d)=>a<4294967296/\b<4294967296/\c<4294967296/\d<4294967296
def PY (s t:Nat)(x:W4)(h:Fm x):Fm (IY s t x):=by obtain ⟨a,b,c,d⟩:=x;obtain ⟨p,l,q,o⟩:=h;have f:kC a b<4294967296:=dQ _ pm;have j:=jr (s:=s) (gG o f);have g:kC c (eG (d^^^kC a b) s)<4294967296:=dQ _ pm;exact ⟨f,jr (gG l g),g,j⟩
def R4:W4->Value
 |(a,b,c,d)=> .tuple #[.int .u32 a, .int .u32 b, .int .u32 c, .int .u32 d]
def zt (a b:Nat):((a:Int)+(b:Int))%4294967296=((kC a b:Nat):Int):=by unfold kC;omega
def Yz (w:World)(a b c d:Int):(Instr.index 379 (.agg #[ar a,ar b,ar c,ar d]) (ar 0)).run prog w= .ok (.agg #[ar a,ar b]) w:=qr
def YA (w:World)(a b c d:Int):(Instr.index 379 (.agg #[ar a,ar b,ar c,ar d]) (ar 1)).run prog w= .ok (.agg #[ar c,ar d]) w:=qr
def We w (a b c d:Nat)(ha:a<4294967296)(R:b<4294967296)(hc:c<4294967296)(U:d<4294967296):
 Calls prog 282 #[ay a,ay b,ay c,ay d] w λe w'=>e= .returned (R4 (po (a,b,c,d)))/\w.grownBy w' none:=by
 have k1:bits .and .u64 (IntKind.u64.wrap 16) 31=((16:Nat):Int):=wl
 have k2:bits .and .u64 (IntKind.u64.wrap 12) 31=((12:Nat):Int):=wl
 have k3:bits .and .u64 (IntKind.u64.wrap 8) 31=((8:Nat):Int):=wl
 have k4:bits .and .u64 (IntKind.u64.wrap 7) 31=((7:Nat):Int):=wl
 have b7:=Yz;have b8:=YA;have HF:∃V,V=R4 (po (a,b,c,d)):=⟨_,rfl⟩;obtain ⟨V,J⟩:=HF;rw[<-J];have HV:=Hq J;clear J;go_enter func282,ntmps282;go_wp2_with fail;refine xp 3 ?_;rw[jt];go_wp2_with fail;rw[zt a b];obtain ⟨u,f⟩:∃z,z=kC a b:=⟨_,rfl⟩;have a0:u<4294967296:=by rw[f];exact dQ _ pm
 rw[<-f,qR _ _ U a0];have a8:=Hq f;clear f;refine (nj _ 16 _ _ (gG U a0) k1 pm pm).mono ?_;rintro e x1 ⟨rfl,rfl⟩;obtain ⟨C,p⟩:∃z,z=eG (d^^^u) 16:=⟨_,rfl⟩;have a7:C<4294967296:=by rw[p];exact jr (gG U a0)
 rw[<-p];have b5:=Hq p;clear p;go_wp2_with fail;rw[zt c C];obtain ⟨c1,l⟩:∃z,z=kC c C:=⟨_,rfl⟩;have a5:c1<4294967296:=by rw[l];exact dQ _ pm
 rw[<-l,qR _ _ R a5];have b3:=Hq l;clear l;refine (nj _ 12 _ _ (gG R a5) k2 pm pm).mono ?_;rintro e y1 ⟨rfl,rfl⟩;obtain ⟨y,h⟩:∃z,z=eG (b^^^c1) 12:=⟨_,rfl⟩;have a4:y<4294967296:=by rw[h];exact jr (gG R a5)
 rw[<-h];have a':=Hq h;clear h;go_wp2_with fail;rw[jt];go_wp2_with fail;rw[zt u y];obtain ⟨a2,g⟩:∃z,z=kC u y:=⟨_,rfl⟩;have a3:a2<4294967296:=by rw[g];exact dQ _ pm
 rw[<-g,qR _ _ a7 a3];have a9:=Hq g;clear g;refine (nj _ 8 _ _ (gG a7 a3) k3 pm pm).mono ?_;rintro e x2 ⟨rfl,rfl⟩;obtain ⟨I,q⟩:∃z,z=eG (C^^^a2) 8:=⟨_,rfl⟩;have b':I<4294967296:=by rw[q];exact jr (gG a7 a3)
 rw[<-q];have b6:=Hq q;clear q;go_wp2_with fail;rw[zt c1 I];obtain ⟨c2,o⟩:∃z,z=kC c1 I:=⟨_,rfl⟩;have a6:c2<4294967296:=by rw[o];exact dQ _ pm
 rw[<-o,qR _ _ a4 a6];have b4:=Hq o;clear o;refine (nj _ 7 _ _ (gG a4 a6) k4 pm pm).mono ?_;rintro e y2 ⟨rfl,rfl⟩;obtain ⟨b2,j⟩:∃z,z=eG (y^^^c2) 7:=⟨_,rfl⟩;have b9:b2<4294967296:=by rw[j];exact jr (gG a4 a6)
 rw[<-j];have b0:=Hq j;clear j;go_wp2_with fail;rw[jt];go_wp2_with fail;go_returns;refine ⟨?_,by repeat(first|exact ak _ _|apply aM|apply cj _ _ pu|apply aF)⟩;rw[HV.out];have f:=a8.out;have p:=b5.out;have l:=b3.out;have h:=a'.out;have g:=a9.out;have q:=b6.out;have o:=b4.out;have j:=b0.out;clear a8 b5 b3 a' a9 b6 b4 b0;subst f p l h g q o j;rfl
def gx(a:Nat):Nat:=(a*2%256)^^^(a/128*27)
def gm:Nat->Nat->Nat->Nat->Nat
 |0,n,_,_=>n
 |f+1,n,a,b=>gm f (n^^^(a*(b&&&1))) (gx a) (b/2)
def rs(a b:Nat):Nat:=gm 8 0 a b
def Sc {p:Nat->Bool}(h:(List.range 256).all p=true)(b:a<256):p a=true:=
 nA.1 h a (pM.2 b)
def rQ {b:Nat}(d:a<256)(f:b<256):a^^^b<256:=EY (n:=8) d f
def NJ (b:a<256):gx a<256:=by
 unfold gx;refine rQ (dQ _ pm) ?_;have:a/128<2:=pm
 omega
def FF (b:Nat):b&&&1<2:=by rw[nat_mask1];omega
def Nz:∀(f n a b:Nat),n<256->a<256->gm f n a b<256
 |0,n,a,b,d,_=>d
 |f+1,n,a,b,d,g=>by
  refine Nz f _ _ _ (rQ d ?_) (NJ g);have:=FF b;generalize b&&&1=t at*
  match t,this with
  |0,_=>simp
  |1,_=>simpa using g
def zY (d:a<256)(b:Nat):rs a b<256:=Nz 8 0 a b pm d
def gi:Nat->Nat->Nat->Nat
 |0,n,_=>n
 |f+1,n,q=>gi f (rs n (rs q q)) (rs q q)
def qk(a:Nat):Nat:=gi 7 1 a
def Nv:∀(f n q:Nat),n<256->q<256->gi f n q<256
 |0,n,q,b,_=>b
 |f+1,n,q,b,d=>Nv f _ _ (zY b _) (zY d _)
def Nw (b:a<256):qk a<256:=Nv 7 1 a pm b
def oe(a k:Nat):Nat:=(a*2^k%256)|||(a/2^(8-k))
def gg(a:Nat):Nat:=qk a^^^99^^^oe (qk a) 1^^^oe (qk a) 2^^^oe (qk a) 3^^^oe (qk a) 4
def Dr(a:Nat):Nat:=qk (oe (a^^^99) 1^^^oe (a^^^99) 3^^^oe (a^^^99) 6)
def yu (b:a<256):oe a k<256:=by unfold oe;exact ow (n:=8) (dQ _ pm) (kO (qQ _ _) b)
def Dy (b:a<256):gg a<256:=by have h:=Nw b;unfold gg;exact rQ (rQ (rQ (rQ (rQ h pm) (yu h)) (yu h)) (yu h)) (yu h)
def Nq (b:a<256):Dr (gg a)=a/\gg (Dr a)=a/\gg a≠a/\gg a≠255-a:=by
 have h:(List.range 256).all (λa=>Dr (gg a)==a&&gg (Dr a)==a&&gg a !=a&&gg a !=255-a)=true:=wl
 have:=Sc h b;simpa[and_assoc]using this
def Ya {b:Nat}(d:a<256)(f:b<256):gg a=gg b↔a=b:=by
 constructor
 ·intro h;rw[<-(Nq d).1,h,(Nq f).1]
 intro h;rw[h]
end
section
def Ad:Nat:=0xe1000000000000000000000000000000
def qx(a:Nat):Nat:=a/2^^^(a%2)*Ad
def hm:Nat->Nat->Nat->Nat->Nat
 |0,n,_,_=>n
 |f+1,n,p,q=>hm f (n^^^(p/2^f%2)*q) p (qx q)
def hmul(p q:Nat):Nat:=hm 128 0 p q
def DB {b:Nat}(d:a<2^128)(f:b<2^128):a^^^b<2^128:=EY d f
def Hu {t:Nat}(d:t<2)(b:k<2^128):t*k<2^128:=by
 match t,d with
 |0,_=>simp
 |1,_=>simpa using b
def Qa (b:a<2^128):qx a<2^128:=by unfold qx;exact DB pm (Hu pm ut)
def NR:∀(f n p q:Nat),n<2^128->q<2^128->hm f n p q<2^128
 |0,n,p,q,b,_=>b
 |f+1,n,p,q,b,d=>NR f _ _ _ (DB b (Hu pm d)) (Qa d)
def NT (p:Nat){q:Nat}(b:q<2^128):hmul p q<2^128:=NR 128 0 p q ut b
end
section
open Go.RowKit
def Nx:∀(f n a:Nat),gm f n a 0=n
 |0,n,a=>rfl
 |f+1,n,a=>by simp only[gm];simpa using Nx f n (gx a)
def ach {b:Nat}(j:n<256)(g:a<256)(h:b<256):
 bits .xor .u8 (n:Int) ((a:Int)*bits .and .u8 (b:Int) 1%256)=((n^^^(a*(b&&&1)):Nat):Int):=by
 have d:=FF b;have f:a*(b&&&1)<256:=by
  generalize b&&&1=t at*
  match t,d with
  |0,_=>simp
  |1,_=>simpa using g
 rw[show(1:Int)=((1:Nat):Int)from rfl,u8_and_nat b 1 h pm,<-Int.natCast_mul];rw[show((a*(b&&&1):Nat):Int)%256=((a*(b&&&1):Nat):Int)from pm,xw _ _ j f]
def acg (f:a<256):
 bits .xor .u8 ((a:Int)*2%256) ((a:Int)/128*27)=((gx a:Nat):Int):=by
 have b:(a:Int)*2%256=((a*2%256:Nat):Int):=pm
 have d:(a:Int)/128*27=((a/128*27:Nat):Int):=pm
 rw[b,d,xw _ _ pm pm];rfl
def Dq (a b:Nat) w (p:a<256)(q:b<256):
 Calls prog 203 #[.int .u8 a, .int .u8 b] w λe w'=>e= .returned (.int .u8 (rs a b))/\w=w':=by
 go_enter func203,ntmps203;go_wp2;go_loop [0,1,5] (λR l U=>∃f n g d:Nat,f<=8/\n<256/\g<256/\d<2^f/\R= .int .u8 g/\l= .int .u8 d/\U= .int .u8 n/\Hid (gm f n g d=rs a b)) (λ_ l _=>(intOf l).toNat)
 case atStart=>exact ⟨8,0,a,b,pm,pm,p,q,rfl,rfl,rfl,rfl⟩
 case round=>
  obtain ⟨f,n,g,d,J,u,h,j,rfl,rfl,rfl,o⟩:=hrel;clear p q;have z:d<256:=fW j (lI pm J:2^f<=2^8);by_cases h0:0<d
  ·go_wp2;go_round
   case rel=>
    cases f with
    |zero=>exact absurd j pp
    |succ f=>
     have y:d/2<2^f:=by rw[je]at j;omega
     have C:=FF d;have I:g*(d&&&1)<256:=by
      generalize d&&&1=t at*
      match t,C with
      |0,_=>simp
      |1,_=>simpa using h
     exact ⟨f,n^^^(g*(d&&&1)),gx g,d/2,pm,rQ u I,NJ h,y,by rw[acg h],pu,by rw[ach u h z],o⟩
   case measure=>simp[intOf];omega
  obtain rfl:d=0:=pm
  go_wp2;go_ret;refine ⟨pq ?_,rfl⟩;have:=o.out;rw[Nx]at this;rw[this]
def XM (a:Nat) w (u:a<256):
 Calls prog 279 #[.int .u8 a] w λe w'=>e= .returned (.int .u8 (qk a))/\w=w':=by
 go_enter func279,ntmps279;go_wp2;go_loop [3,4,6] (λz C g=>∃f n q k:Nat,f+k=7/\n<256/\q<256/\g= .int .i64 k/\z= .int .u8 n/\C= .int .u8 q/\Hid (gi f n q=qk a)) (λ_ _ g=>7-(intOf g).toNat)
 case atStart=>exact ⟨7,1,a,0,pm,pm,u,rfl,rfl,rfl,rfl⟩
 case round=>
  obtain ⟨f,n,q,k,I,l,d,rfl,rfl,rfl,h⟩:=hrel;have o:=zY d q;by_cases J:k<7
  ·go_wp2_with fail;refine (Dq q q _ d d).mono ?_;rintro e w' ⟨rfl,rfl⟩;generalize j:rs q q=b at*;have p:=Hq j;clear j;go_wp2_with fail;refine (Dq n b _ l o).mono ?_;rintro e w' ⟨rfl,rfl⟩;have y:=zY l b;go_wp2;go_round
   case rel=>
    cases f with
    |zero=>omega
    |succ f=>exact ⟨f,rs n b,b,k+1,pm,y,o,by go_num,rfl,rfl,by have:=h.out;simp only[gi,p.out]at this;exact this⟩
   case measure=>simp[intOf];omega
  obtain rfl:f=0:=pm
  go_wp2;go_ret;exact ⟨pq (by have:=h.out;simp only[gi]at this;rw[this]),rfl⟩
def V8 (f:a<256)(g:k<8)(X:Int)(b:X=((a*2^k%256:Nat):Int))(Y:Int)(d:Y=((a/2^(8-k):Nat):Int)):
 bits .or .u8 X Y=((oe a k:Nat):Int):=by
 subst b d;rw[u8_or_nat _ _ (dQ _ pm) (kO (qQ _ _) f)];rfl
def V7 (a:Nat)(k:Int) w (b:a<256)(l:0<k)(o:k<8):
 Calls prog 280 #[.int .u8 a, .int .i64 k] w λe w'=>e= .returned (.int .u8 (oe a k.toNat))/\w=w':=by
 obtain ⟨n,rfl⟩:=Bo (show 0<=k by omega);have d:bits .and .u64 ((n:Nat):Int) 7=(n:Int):=by rw[show(7:Int)=((7:Nat):Int)from rfl,rY n 7 pm pm,nat_mask3];omega
 have f:IntKind.u64.wrap (8-(n:Int))=8-(n:Int):=dE _ pm;have g:(n:Int)<=8:=pm
 have h:8-(n:Int)<=8:=pm
 have j:0<=8-(n:Int):=pm
 go_enter func280,ntmps280;go_wp2;go_ret;refine ⟨pq ?_,rfl⟩;refine V8 b pm _ ?_ _ ?_
 ·simp
 simp
def gs(b:Nat):Nat->Nat
 |0=>b^^^99
 |k+1=>gs b k^^^oe b (k+1)
def NH {b:Nat}(d:b<256):∀k,gs b k<256
 |0=>rQ d pm
 |k+1=>rQ (NH d k) (yu d)
def XN (a:Nat) w (g:a<256):
 Calls prog 253 #[.int .u8 a] w λe w'=>e= .returned (.int .u8 (gg a))/\w=w':=by
 have h:gg a=gs (qk a) 4:=rfl;have j:=Hq h;clear h;have d:=Nw g;go_enter func253,ntmps253;go_wp2_with fail;refine (XM a _ g).mono ?_;rintro e w' ⟨rfl,rfl⟩;generalize qk a=b at*;have o:bits .xor .u8 (b:Int) 99=((gs b 0:Nat):Int):=by rw[show(99:Int)=((99:Nat):Int)from rfl,xw _ _ d pm];rfl
 go_wp2_with fail;clear o;go_loop [4,10] (λp f=>∃k:Nat,k<=4/\f= .int .i64 k/\p= .int .u8 (gs b k)) (λ_ f=>4-(intOf f).toNat)
 case atStart=>exact ⟨0,pm,rfl,rfl⟩
 case round=>
  obtain ⟨k,y,rfl,rfl⟩:=hrel;have l:=NH d k;have u:bits .xor .u8 ((gs b k:Nat):Int) ((oe b (k+1):Nat):Int)=((gs b (k+1):Nat):Int):=xw _ _ l (yu d);by_cases q:k<4
  ·go_wp2_with fail;refine (V7 b ((k:Int)+1) _ d pm pm).mono ?_;rintro e w' ⟨rfl,rfl⟩;rw[show((k:Int)+1).toNat=k+1from pm];go_wp2;go_round
   case rel=>exact ⟨k+1,pm,by go_num,rfl⟩
   case measure=>simp[intOf];omega
  obtain rfl:k=4:=pm
  go_wp2;go_ret;exact ⟨pq (by rw[j.out]),rfl⟩
def qg(b:Region.Mode)(ops:Array Oper):Bool:=
 (List.range ops.size).all λi=>((ops[i]?).map λo=>o.after.all λe=> !Region.binds b e||decide (e.on<i)).getD true
def MK {f:Region.Mode}(h:qg f ops=true){o:Oper}(d:ops[i]?=some o)(e:Edge)(l:e∈o.after)(j:Region.binds f e=true):e.on<i:=by unfold qg at h;have p:i<ops.size:=(ot.1 d).1;have b:=nA.1 h i (pM.2 p);rw[d]at b;simp only[qP,Option.getD_some]at b;have g:=Bj.1 b e l;simpa[j]using g
def FA {d:Region.Mode}{b:Array Bool}(j:qg d ops=true)(q:b.size=ops.size)(l:Region.ready d ops b=[]):∀i,i<ops.size->b.getD i false=true:=by
 intro i;induction i using Nat.strongRecOn with
 |_ i p=>
  intro f;rcases hb:b.getD i false with _|_
  ·exfalso;have hm:i∈Region.ready d ops b:=by
    rw[mem_ready];refine ⟨?_,ops[i],by simp[f],λe g h=>?_⟩
    ·have:i<b.size:=pm;simp[this]at hb⊢;exact hb
    have:=MK j (i:=i) (o:=ops[i]) (by simp[f]) e g h;exact p e.on this pm
   rw[l]at hm;cases hm
  rfl
def Ns {l:Array Bool}(b:i<l.size):l.getD i true=l.getD i false:=by simp[b]
def acD {l:Region.Mode}(R:qg l ops=true)(I:(Nat->Bool)->Act->World->Prop)
 (step:∀(L:Nat->Bool) (i:Nat) (o:Oper) (a:Act) (w:World),ops[i]?=some o->L i=false->(∀e∈o.after,Region.binds l e=true->L e.on=true)->I L a w->wpOp P ops Q i (I λj=>j==i||L j) a w)
 (J:∀(L:Nat->Bool) (a:Act) (w:World),(∀i,i<ops.size->L i=true)->I L a w->Q .normal a w):
 ∀(p:Nat) (b:Array Bool) (a:Act) (w:World),b.size=ops.size->b.toList.count false<=p->I (λj=>b.getD j false) a w->wpAny P l ops Q p b a w:=by
 intro p;induction p with
 |zero=>
  intro b a w g hc u;have f:Region.ready l ops b=[]:=by
   rcases f:Region.ready l ops b with _|⟨i,r⟩
   ·rfl
   exfalso;have hm:i∈Region.ready l ops b:=(by rw[f];simp);rw[mem_ready]at hm;obtain ⟨q,o,y,_⟩:=hm;have d:i<b.size:=by rw[g];exact (ot.1 y).1
   have:false∈b.toList:=by
    have e:b[i]=false:=by simpa[d]using q
    rw[<-e];simp
   have:=BG.2 this;omega
  exact ⟨f,J _ a w (FA R g f) u⟩
 |succ p ih=>
  intro b a w g hc u;refine ⟨λf=>J _ a w (FA R g f) u,λi hm=>?_⟩;rw[mem_ready]at hm;obtain ⟨q,o,y,hd⟩:=hm;have d:i<b.size:=by rw[g];exact (ot.1 y).1
  have hL:b.getD i false=false:=by rw[<-Ns d];exact q
  refine wpOp_mono (λa w a0=>?_) (step (λj=>b.getD j false) i o a w y hL hd u);refine ih _ a w (by simpa using g) ?_ ?_
  ·have e:b[i]=false:=by simpa[d]using q
   have hl:i<b.toList.length:=by simpa using d
   have hp:0<b.toList.count false:=BG.2 (by rw[<-e];simp);rw[Array.toList_setIfInBounds,List.count_set hl];have U:(b.toList[i]==false)=true:=(by simp[e]);rw[av U,au ut];omega
  have a2:(λj=>(b.setIfInBounds i true).getD j false)=(λj=>j==i||b.getD j false):=by
   funext j;by_cases z:j=i
   ·subst z;simp[d]
   have:¬i=j:=λh=>z h.symm;have a1:(j==i)=false:=by simpa using z
   rw[a1,jX];simp only[Array.getD,Array.size_setIfInBounds];by_cases C:j<b.size
   ·simp only[C,dite_true];exact Array.getElem_setIfInBounds_ne C this
   simp only[C,dite_false]
  rw[a2];exact a0
def acH {id:Nat}{a:Act}(hm:P.follows .mixedOrders=true)(d:qg .any ops=true)(I:(Nat->Bool)->Act->World->Prop)
 (step:∀(L:Nat->Bool) (i:Nat) (o:Oper) (a:Act) (w:World),ops[i]?=some o->L i=false->(∀e∈o.after,Region.binds .any e=true->L e.on=true)->I L a w->wpOp P ops Q i (I λj=>j==i||L j) a w)
 (b:∀(L:Nat->Bool) (a:Act) (w:World),(∀i,i<ops.size->L i=true)->I L a w->Q .normal a w)
 (h0:I (λ_=>false) a w.drew):(Code.region id ops true).wp P Q a w:=by
 refine wp_region_any hm ?_;refine acD d I step b _ _ _ _ pu pu ?_;have e:(λj=>(Array.replicate ops.size false).getD j false)=(λ_=>false):=by funext j;simp[Array.getD]
 rw[e];exact h0
def Rk {n:Int}(h:(Lit.int .i64 n).wf=true): -9223372036854775808<=n/\n<=9223372036854775807:=by simp only[Lit.wf,fY,kr]at h;exact h
def wG(O:Own)(a:Nat)(y peer:Int):Int×Own:=
 if y<0\/32<y\/peer<0\/8<=peer then(1,O)
 else if a*2^y.toNat%4294967296≠0then(5,O)
 else match O (cV a y.toNat)with
  |some _=>(0,gX O (cV a y.toNat) peer)
  |none=>if(iw O).length=64then(9,O)else(0,gX O (cV a y.toNat) peer)
def Py (M:Pf->Bool)(V:Pf->Int)(q:Pf)(v:Int):fN (uP M q true) (jD V q v)=gX (fN M V) q v:=by
 funext p;unfold fN uP jD gX;by_cases e:p=q
 ·simp[e]
 simp[e]
def Wd w (B0 tb:Nat)(O:Own)(h:TB B0 w tb O)(a:Nat)(ha:a<4294967296)(y peer:Int)(hy:(Lit.int .i64 y).wf=true)(hp:(Lit.int .i64 peer).wf=true):
 Calls prog 66 #[dy tb 0, .agg #[ay a,ar y],ar peer] w λe w'=>e= .returned (ar (wG O a y peer).1)/\TB B0 w' tb (wG O a y peer).2/\GT B0 w w':=by
 obtain ⟨a7,a8⟩:=Rk hy;obtain ⟨b5,b6⟩:=Rk hp;have l:=aT w (.cells #[ay a,ar y] 88) none;have hb:=ab.new w 88 [ay a,ar y];have b0:=hb.cell 0;have b1:=hb.cell 1;by_cases hA:y<0\/32<y\/peer<0\/8<=peer
 ·have hS:wG O a y peer=(1,O):=av hA;rw[hS];have R:=Hq (h.new l);have J:=Hq (GT.new (B0:=B0) l);have e1:(((decide (y<0)||decide (32<y))||decide (peer<0))||decide (8<=peer))=true:=pp
  clear h l hS hy hp;by_cases h1:y<0
  ·go_enter func66,ntmps66;go_wp2;go_ret;exact ⟨rfl,R.out,J.out⟩
  by_cases h2:32<y
  ·go_enter func66,ntmps66;go_wp2;go_ret;exact ⟨rfl,R.out,J.out⟩
  by_cases h3:peer<0
  ·go_enter func66,ntmps66;go_wp2;go_ret;exact ⟨rfl,R.out,J.out⟩
  have h4:8<=peer:=pm
  go_enter func66,ntmps66;go_wp2;go_ret;exact ⟨rfl,R.out,J.out⟩
 obtain ⟨n,rfl,hn⟩:∃n:Nat,y=(n:Int)/\n<=32:=⟨y.toNat,pm,pm⟩;have v0:¬((n:Int)<0):=pm
 have v1:¬(32<(n:Int)):=pm
 have v2:¬(peer<0):=pm
 have v3:¬(8<=peer):=pm
 have v4:(0:Int)<=(n:Int):=pm
 have v5:((n:Int)).toNat=n:=pm
 have hS:wG O a (n:Int) peer=if a*2^n%4294967296≠0then((5:Int),O)else match O (cV a n)with
  |some _=>((0:Int),gX O (cV a n) peer)
  |none=>if(iw O).length=64then(9,O)else(0,gX O (cV a n) peer):=au hA
 rw[hS];clear hS hA hy a7 a8;by_cases h0:a*2^n%4294967296=0
 ·rw[au (by simpa using h0)];have hz:((a:Int)*2^n%4294967296 !=0)=false:=by rw[show(a:Int)*2^n%4294967296=((a*2^n%4294967296:Nat):Int)from pu,h0];rfl
  obtain ⟨N,M,V,T,hl,p,a4⟩:=h;have A:=VZ (w.alloc (.cells #[ay a,ar n] 88)) B0 tb N M V _ (T.new l) hl a n ha hn;have a6:(cV a n).length<=32:=by rw[vM];exact hn
  have a2:=Hq (GT.new (B0:=B0) l);clear T l h0;generalize hq:cV a n=q at*;clear hq;have a5:q.length<=32:=a6;cases hOq:O q with
  |some v=>
   simp only;go_enter func66,ntmps66;go_wp2_with fail;refine A.mono ?_;rintro e I ⟨b,N',V',rfl,d,f,u,g,C⟩;have a0:M q=true:=by
    cases hm:M q with
    |true=>rfl
    |false=>rw[<-p]at hOq;unfold fN at hOq;rw[hm]at hOq;cases hOq
   obtain ⟨_,_,k2,k3⟩:=(f.bu _ b d).cells;have f2:=(f.bu _ b d).frozen 2;rw[a0]at k2;have j:=f.Qu q b d true;obtain ⟨_,_,_,m3⟩:=(j.bu _ b d).cells;have f3:=(j.bu _ b d).frozen 3;have g2:=Tree.xZ f g d 2 (.bool true);have T3:=j.Qv q b d peer ⟨pm,pm⟩;have g3:=Tree.xZ j g d 3 (ar peer);have o:Hid (TB B0 ((I.setCell ⟨b,2,none⟩ (.bool true)).setCell ⟨b,3,none⟩ (ar peer)) tb (gX O q peer)/\GT B0 w ((I.setCell ⟨b,2,none⟩ (.bool true)).setCell ⟨b,3,none⟩ (ar peer))):=
    Hq ⟨⟨N',_,_,by rw[FC O q peer v hOq];exact T3,g,by rw[Py,u,p],by rw[FC O q peer v hOq];exact a4⟩,((a2.out.trans C).trans g2).trans g3⟩
   clear A f u g C j T3 g2 g3 p hOq hl;go_wp2;go_ret;exact ⟨rfl,o.out.1,o.out.2⟩
  |none=>
   have a0:M q=false:=by
    cases hm:M q with
    |false=>rfl
    |true=>rw[<-p]at hOq;unfold fN at hOq;rw[hm]at hOq;cases hOq
   by_cases a1:(iw O).length=64
   ·simp only[av a1];go_enter func66,ntmps66;go_wp2_with fail;refine A.mono ?_;rintro e I ⟨b,N',V',rfl,d,f,u,g,C⟩;obtain ⟨_,_,k2,k3⟩:=(f.bu _ b d).cells;have hm:=f.many.1;rw[a1]at hm;rw[a0]at k2;have o:Hid (TB B0 I tb O/\GT B0 w I):=Hq ⟨⟨N',M,V',f,g,by rw[u,p],a4⟩,a2.out.trans C⟩;clear A f u g C p hOq hl;go_wp2;go_ret;exact ⟨rfl,o.out.1,o.out.2⟩
   simp only[au a1];go_enter func66,ntmps66;go_wp2_with fail;refine A.mono ?_;rintro e I ⟨b,N',V',rfl,d,f,u,g,C⟩;obtain ⟨hm,b4⟩:=f.many;have a':(((iw O).length:Int)==64)=false:=(by rw[dC];omega);obtain ⟨_,_,k2,_⟩:=(f.bu _ b d).cells;rw[a0]at k2;have U:=f.Jl ((iw O).length+1);have a3:=Tree.xZ f g f.root 4 (ar ((iw O).length+1:Nat));have e1:(((iw O).length+1:Nat):Int)=((iw O).length:Int)+1:=rfl;rw[e1]at U a3;obtain ⟨_,_,a9,b7⟩:=(U.bu _ b d).cells;rw[a0]at a9;have f2:=(U.bu _ b d).frozen 2;have j:=U.Qu q b d true;obtain ⟨_,_,_,m3⟩:=(j.bu _ b d).cells;have f3:=(j.bu _ b d).frozen 3;have g2:=Tree.xZ U g d 2 (.bool true);have T3:=j.Qv q b d peer ⟨pm,pm⟩;have g3:=Tree.xZ j g d 3 (ar peer);have o:Hid (TB B0 (((I.setCell ⟨tb,4,none⟩ (ar (((iw O).length:Int)+1))).setCell ⟨b,2,none⟩ (.bool true)).setCell ⟨b,3,none⟩ (ar peer)) tb (gX O q peer)/\GT B0 w (((I.setCell ⟨tb,4,none⟩ (ar (((iw O).length:Int)+1))).setCell ⟨b,2,none⟩ (.bool true)).setCell ⟨b,3,none⟩ (ar peer))):=
    Hq ⟨⟨N',_,_,by rw[FB O q peer a5 hOq];exact T3,g,by rw[Py,u,p],by rw[FB O q peer a5 hOq];omega⟩,(((a2.out.trans C).trans a3).trans g2).trans g3⟩
   clear A f u g C j T3 g2 g3 p hOq hl U a3 e1;have b2:(0:Int)<=((iw O).length:Int):=pm;have b3:((iw O).length:Int)<=64:=pm;clear a4 a1;generalize ((iw O).length:Int)=L at*;go_wp2;go_ret;exact ⟨rfl,o.out.1,o.out.2⟩
 rw[av h0];have hz:((a:Int)*2^n%4294967296 !=0)=true:=by rw[show(a:Int)*2^n%4294967296=((a*2^n%4294967296:Nat):Int)from pu];generalize a*2^n%4294967296=z at h0;rw[dY];omega
 have R:=Hq (h.new l);have J:=Hq (GT.new (B0:=B0) l);clear h l;go_enter func66,ntmps66;go_wp2;go_ret;exact ⟨rfl,R.out,J.out⟩
def vP(a b:Int):Int:=if a<b then -1 else if b<a then 1 else 0
def TK w (a b:Int):Calls prog 241 #[.int .i64 a, .int .i64 b] w λe w'=>e= .returned (.int .i64 (vP a b))/\w=w':=by
 unfold vP;by_cases d:a<b
 ·rw[av d];go_enter func241,ntmps241;go_wp2;go_ret;exact ⟨rfl,rfl⟩
 rw[au d];by_cases f:b<a
 ·rw[av f];go_enter func241,ntmps241;go_wp2;go_ret;exact ⟨rfl,rfl⟩
 rw[au f];go_enter func241,ntmps241;go_wp2;go_ret;exact ⟨rfl,rfl⟩
def DV(a b:Int):Int:=if a=0then b else a
def TL (w:World)(B:Nat)(a b:Int)(h0:w.cell? ⟨B,0,none⟩=some (.int .i64 a))(h1:w.cell? ⟨B,1,none⟩=some (.int .i64 b)):
 Calls prog 240 #[.slice (some ⟨B,0,none⟩) 2 2] w λe w'=>e= .returned (.int .i64 (DV a b))/\w=w':=by
 unfold DV;by_cases h:a=0
 ·have g:(a !=0)=false:=by simpa using h
  rw[av h];clear h;by_cases d:b=0
  ·have j:(b !=0)=false:=by simpa using d
   have f:=Hq d;clear d;go_enter func240,ntmps240;go_wp2
   go_rounds 3
   all_goals
    go_wp2;go_ret;exact ⟨pq (by rw[f.out]),rfl⟩
  have j:(b !=0)=true:=by simpa using d
  clear d;go_enter func240,ntmps240;go_wp2
  go_rounds 3
  all_goals
   go_wp2;go_ret;exact ⟨rfl,rfl⟩
 have g:(a !=0)=true:=by simpa using h
 rw[au h];clear h;go_enter func240,ntmps240;go_wp2
 go_rounds 3
 all_goals
  go_wp2;go_ret;exact ⟨rfl,rfl⟩
def Lg (W:World) cs (t:TypeId)(B:Nat)(b:B=W.heap.size)(o:Nat):(W.alloc (.cells cs t)).drew.cell? ⟨B,o,none⟩=cs[o]?:=by subst b;exact cK (aO W _) o
def CJ {x:World}(o:Obj){a:Addr}(h:x.cell? a=some v):(x.alloc o).cell? a=some v:=by rw[Bs (BP x o a.block (rS x _ h))];exact h
def Ai(s n s' b:Int):Bool:=decide (s'<s)||(decide (s=s')&&decide (b<n))
def aaK w (s n s' b:Int):Calls prog 178 #[.agg #[.int .i64 s, .int .i64 n], .agg #[.int .i64 s', .int .i64 b]] w λe w'=>e= .returned (.bool (Ai s n s' b))/\w.grownBy w' none:=by
 have g:decide (0<DV (vP s s') (vP n b))=Ai s n s' b:=by unfold DV vP Ai;rw[Bool.eq_iff_iff];simp;split<;>(try split)<;>(try split)<;>(try split)<;>(try split)<;>omega
 have j:=Hq g;clear g;have o:∃x,x=(w.alloc (.cells #[.int .i64 s, .int .i64 n] 119)).alloc (.cells #[.int .i64 s', .int .i64 b] 119):=⟨_,rfl⟩;obtain ⟨x,d⟩:=o;have o1:x.heap[w.heap.size]?=some (.cells #[.int .i64 s, .int .i64 n] 119 (0,0)):=by rw[d];exact cG (aO w _)
 have o2:x.heap[w.heap.size+1]?=some (.cells #[.int .i64 s', .int .i64 b] 119 (0,0)):=by rw[d];have:=aO (w.alloc (.cells #[.int .i64 s, .int .i64 n] 119)) (.cells #[.int .i64 s', .int .i64 b] 119);rw[show(w.alloc (.cells #[.int .i64 s, .int .i64 n] 119)).heap.size=w.heap.size+1from pu]at this;exact this
 have c0:x.cell? ⟨w.heap.size,0,none⟩=some (.int .i64 s):=by rw[cK o1];rfl
 have c1:x.cell? ⟨w.heap.size,1,none⟩=some (.int .i64 n):=by rw[cK o1];rfl
 have q:x.cell? ⟨w.heap.size+1,0,none⟩=some (.int .i64 s'):=by rw[cK o2];rfl
 have u:x.cell? ⟨w.heap.size+1,1,none⟩=some (.int .i64 b):=by rw[cK o2];rfl
 have l:w.grownBy x none:=by rw[d];exact aF (aF (ak w _) _) _
 have h:x.heap.size=w.heap.size+2:=by rw[d];simp
 have f:=Hq d;have p:=Hq h;clear o1 o2 d h;go_enter func178,ntmps178;go_wp2_with fail;rw[<-f.out];clear f;go_region_held3 (λw'=>w'.cell? ⟨w.heap.size,0,none⟩=some (.int .i64 s)/\w'.cell? ⟨w.heap.size,1,none⟩=some (.int .i64 n)/\w'.cell? ⟨w.heap.size+1,0,none⟩=some (.int .i64 s')/\w'.cell? ⟨w.heap.size+1,1,none⟩=some (.int .i64 b))
  (first|go_keep|(refine ⟨CJ _ ?_,CJ _ ?_,CJ _ ?_,CJ _ ?_⟩<;>assumption))
  (first
   |(go_at_call 241;refine (TK _ _ _).mono ?_;rintro e x2 ⟨rfl,rfl⟩)
   |(go_at_call 240;refine (TL _ _ (vP s s') (vP n b) ?_ ?_).mono ?_;exact Lg _ _ _ _ pu 0;exact Lg _ _ _ _ pu 1;rintro e x2 ⟨rfl,rfl⟩))
 go_wp2;go_ret;refine ⟨Qd j.out,?_⟩;exact aM (aF l _)
end
end Go.Proofs.YtmomfbkpniblgaaGreatDoor
