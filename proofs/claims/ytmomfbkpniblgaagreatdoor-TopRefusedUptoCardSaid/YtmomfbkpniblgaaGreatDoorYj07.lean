/- A part of this claim's proof. -/
import Derived.Test.YtmomfbkpniblgaaGreatDoorYj03
import Derived.WalkKit
import Derived.Laws.IdiomRangeMap
import Derived.Deep.LoopGhost
import Derived.Test.YtmomfbkpniblgaaGreatDoorYj04
import Derived.StillTail
import Derived.OrdersIn
import Derived.CallsIn
import Derived.RangeFuncCalls
import Derived.TacticsIn
set_option linter.all false
set_option maxHeartbeats 4000000
set_option maxRecDepth 20000
namespace Go.Proofs.YtmomfbkpniblgaaGreatDoor
open Go.Proofs.Tryz
variable {A a0:Act}{Q:Exit->Act->World->Prop}{l r:List Oper}{G:Ln}{cs:Lv}{B g i id j k n:Nat}{L:Nat->Bool}{o:Oper}{P:Program}{t:TypeId}{v:Value}{a w x y:World}{R:World->Prop}{Sp:World->World->Prop}
section
open Go.RowKit Go.Maps
def kZ:Keyed prog 33:=int_keyed underlying33
def nY:Lit->Dm->Bool:=λ_ d=>match d with
 | .lit (.int _ c)=>decide (5<=c)
 |_=>false
def J8 (l:Lit)(c:Int):nY l (nm c)=decide (5<=c):=rfl
abbrev FU(w:World)(b n:Nat)(D:Dm):Prop:=w.ownsMap prog 33 (plainElem prog 3) b n D
def Mv w (key:Value)(c:Int):Calls prog 235 #[key, .int .i64 c] w λe b=>e= .returned (.bool (decide (5<=c)))/\w=b:=by go_enter func235,ntmps235;go_wp2;go_ret;exact ⟨rfl,rfl⟩
def DO w (b n:Nat)(D:Dm)(U:FU w b n D):
 Calls prog 234 #[.map (some b), .func (.func 235) #[] #[]] w λe w'=>e= .returned (.tuple #[])/\FU w' b n (Lib.deleteFuncD nY D)/\w.grownBy w' (some b):=by
 obtain ⟨a3,rfl,s,a6⟩:=U.entries kZ;go_enter func234,ntmps234;go_wp2_with (first
  |(at_range;refine wpList_range_own _ rfl _ 182 rfl 33 3 kZ underlying182 _ b n _ rfl U ?_;intro w0 a9 a4 b5)
  |go_in)
 go_frame
 go_loopw [8] (λ_ wr=>∃(left:Lit->Bool) (q:Nat),wr.ranges prog 33 (plainElem prog 3) b w.heap.size n (Fk nY a3 left) left q/\w.grownBy wr (some b))
  (λ_ wr=>wr.rangeLeft b w.heap.size)
 case atStart=>exact ⟨_,_,by rw[Fk_start a6];exact a9,a4.but _⟩
 case round=>
  obtain ⟨left,q,f,C⟩:=hrel;go_wp2_with (first
   |(at_next;refine wpList_next_ranges_ii _ rfl _ rfl 33 3 .u32 .i64 kZ underlying33 underlying3 b w.heap.size n _ _ _ rfl f ?_ ?_)
   |go_in)
  ·intro _ a7;go_wp2;go_end0;exact ⟨rfl,by rw[<-Fk_end a7];exact f.owns,C⟩
  intro x c w1 a1 b0 b7 J z d a8 a5 b6 b2;have I:=C.andThen a5 (λj h=>by cases h;exact Or.inl (bm _));have b1:=d.owns.lt;have b4:=d.lt;have m:=keyOf_int_mk underlying33 b0;by_cases hp:5<=c
  ·go_wp2_with (first
    |(go_at_call 235;refine (Mv _ _ _).mono ?_;rintro e w2 ⟨rfl,rfl⟩)
    |(at_delete;refine wpList_delete_ranges _ rfl _ _ 182 33 rfl 3 kZ underlying182 _ b w.heap.size n _ _ _ rfl d _ _ rfl m ?_;intro w3 a2 p b3 a';go_frame)
    |go_in)
   rw[strike_twice]at p;go_roundw
   case rel=>exact ⟨_,a2,by rw[<-Fk_struck s (kZ.key m) J (by simp[nY,hp]) z];exact p,I.andThen a'.grown (λj h=>by cases h;exact Or.inr rfl)⟩
   case measure=>rw[p.left_eq,f.left_eq];omega
  go_wp2_with (first
   |(go_at_call 235;refine (Mv _ _ _).mono ?_;rintro e w2 ⟨rfl,rfl⟩)
   |go_in)
  go_roundw
  case rel=>exact ⟨_,a1,by rw[<-Fk_stays s (kZ.key m) J (by simp[nY,hp]) z];exact d,I⟩
  case measure=>rw[d.left_eq,f.left_eq];exact a8
end
section
open Go.RowKit
def gU(a:Act):Ln->Lv->Act
 |s::r,v::b=>gU (a.put (some s) v) r b
 |_,_=>a
def O9 (a:Act)(s:Nat)(v x:Value):(a.put (some s) v).put (some s) x=a.put (some s) x:=by
 simp only[Act.put];congr 1;apply yV;intro i;by_cases h:s=i
 ·subst h;by_cases hs:s<a.tmps.size
  ·simp[hs]
  simp[hs]
 simp[qH h]
def put_comm (a:Act)(s t:Nat)(v x:Value)(h:s≠t):(a.put (some s) v).put (some t) x=(a.put (some t) x).put (some s) v:=by simp only[Act.put];congr 1;exact Array.setIfInBounds_comm v x h
def PT (a:Act)(s:Nat)(v:Value)(h:a.tmps.size<=s):a.put (some s) v=a:=by
 have:a.tmps.setIfInBounds s v=a.tmps:=by
  apply yV;intro i;by_cases e:s=i
  ·subst e;rw[tC (by simpa using h),tC h]
  rw[qH e]
 simp only[Act.put,this]
def Om:∀(r:Ln) (b:Lv) (a:Act) (s:Nat) (x:Value),s∉r->(gU a r b).put (some s) x=gU (a.put (some s) x) r b
 |[],_,a,s,x,_=>rfl
 |t::r,[],a,s,x,_=>rfl
 |t::r,v::b,a,s,x,h=>by rw[gU,gU,Om r b _ s x (λe=>h (wY _ e)),put_comm _ _ _ _ _ (λe=>h (by rw[e];exact BD))]
def On:∀(W:Ln) (b:Lv) (a:Act) (i s:Nat) (x:Value),W.Nodup->W[i]?=some s->b.length=W.length->gU a W (b.set i x)=(gU a W b).put (some s) x
 |[],_,_,_,_,_,_,h,_=>by simp at h
 |t::W,[],_,_,_,_,_,_,h=>by simp at h
 |t::W,v::b,a,0,s,x,c,h,d=>by
  obtain rfl:t=s:=by simpa using h
  rw[iD,gU,gU,Om W b _ t x (xm.1 c).1,O9]
 |t::W,v::b,a,i+1,s,x,c,h,d=>by rw[ny,gU,gU,On W b _ i s x (xm.1 c).2 (by simpa using h) (by simpa using d)]
def Il:∀(W:Ln) (b:Lv) (a:Act),(gU a W b).tmps.size=a.tmps.size
 |[],_,_=>rfl
 |_::_,[],_=>rfl
 |s::W,v::b,a=>by rw[gU,Il W b];simp[Act.put]
def ED(o:Oper)(n:Nat):Bool:=o.after.any λe=>Region.binds .any e&&e.on==n
def EE (h:ED o n=true)(c:∀e∈o.after,Region.binds .any e=true->L e.on=true):L n=true:=by unfold ED at h;obtain ⟨e,d,b⟩:=Array.any_eq_true'.1 h;simp only[fY,sd]at b;have:=c e d b.1;rwa[b.2]at this
def uF(b:Nat):List Oper->Ln->Bool
 |o::l,s::W=>(match o.dst with
  |some d=>d==s
  |none=>decide (b<=s))&&o.guard.isNone&&uF b l W
 |[],[]=>true
 |_,_=>false
def Pn {p:Nat}:∀{l:List Oper} {W:Ln},uF p l W=true->l.length=W.length/\∀(i:Nat) (o:Oper),l[i]?=some o->o.guard=none/\∃s,W[i]?=some s/\((o.dst=some s)\/(o.dst=none/\p<=s))
 |[],[],_=>⟨rfl,λi o h=>by simp at h⟩
 |[],_::_,h=>by simp[uF]at h
 |_::_,[],h=>by simp[uF]at h
 |o::l,s::W,h=>by
  simp only[uF,fY]at h;obtain ⟨⟨b,q⟩,z⟩:=h;obtain ⟨e,f⟩:=Pn z;refine ⟨by simp[e],λi m c=>?_⟩;cases i with
  |zero=>
   obtain rfl:o=m:=by simpa using c
   refine ⟨by simpa using q,s,rfl,?_⟩;cases hd:o.dst with
   |none=>rw[hd]at b;exact Or.inr ⟨rfl,by simpa using b⟩
   |some d=>rw[hd]at b;left;rw[show d=s by simpa using b]
  |succ i=>obtain ⟨g,J,C,I⟩:=f i m (by simpa using c);exact ⟨g,J,by simpa using C,I⟩
def gF(l:List Oper):Nat->Nat->Nat->Bool
 |0,_,_=>false
 |f+1,i,j=>match l[i]?with
  |some o=>ED o j||(List.range l.length).any λk=>ED o k&&gF l f k j
  |none=>false
def Ef {l:List Oper}{L:Nat->Bool}(b:∀(i:Nat) (o:Oper),l[i]?=some o->L i=true->∀e∈o.after,Region.binds .any e=true->L e.on=true):∀(f i j:Nat),gF l f i j=true->L i=true->L j=true
 |0,_,_,h,_=>by cases h
 |f+1,i,j,h,c=>by
  rw[gF]at h;cases e:l[i]?with
  |none=>rw[e]at h;cases h
  |some o=>
   rw[e]at h;simp only[xo,xh,fY]at h;rcases h with h|⟨k,_,d,m⟩
   ·exact EE h (b i o e c)
   exact Ef b f k j m (EE d (b i o e c))
def Ro {c:Code}{a}(F:Act)(X:World)(h:c.wp P (λe b d=>e= .normal/\b=F/\d=X) a w)(k:Q .normal F X):c.wp P Q a w:=
 wp_mono h (by rintro e b d ⟨rfl,rfl,rfl⟩;exact k)
def yQ {c:Code}{a}(X:World->Prop)(F:Act)(h:c.wp P (λe d b=>e= .normal/\d=F/\X b) a w)(k:∀b,X b->Q .normal F b):c.wp P Q a w:=
 wp_mono h (by rintro e d b ⟨rfl,rfl,f⟩;exact k _ f)
def JD(l:List Oper)(n:Nat):Bool:=(List.range l.length).all λi=>decide (i<n)||(List.range n).all λj=>gF l 20 i j
def abe (h:JD l n=true)(c:i<l.length)(e:n<=i)(d:j<n):gF l 20 i j=true:=by
 have b:=nA.1 h i (pM.2 c);simp only[xo,kr]at b;rcases b with b|b
 ·omega
 exact nA.1 b j (pM.2 d)
def Qb (m:∀(i:Nat) (o:Oper),l[i]?=some o->L i=true->∀e∈o.after,Region.binds .any e=true->L e.on=true)(f i j:Nat)(h:gF l f i j=true)(b:∀o,l[i]?=some o->∀e∈o.after,Region.binds .any e=true->L e.on=true):L j=true:=by
 cases f with
 |zero=>cases h
 |succ f=>
  rw[gF]at h;cases e:l[i]?with
  |none=>rw[e]at h;cases h
  |some o=>
   rw[e]at h;simp only[xo,xh,fY]at h;rcases h with h|⟨k,_,c,d⟩
   ·exact EE h (b o e)
   exact Ef m f k j d (EE c (b o e))
def acB (n:Nat)(hn:n<=l.length)(he:qg .any l.toArray=true)(ht:JD l n=true)
 (b4:Region.seqB .any l.toArray (l.length-n) n (((List.range l.length).map λi=>decide (i<n)).toArray)=true)
 (I:(Nat->Bool)->Act->World->Prop)
 (step:∀(L:Nat->Bool) (i:Nat) (o:Oper) (a:Act) (w:World),l[i]?=some o->i<n->L i=false->(∀e∈o.after,Region.binds .any e=true->L e.on=true)->I L a w->wpOp P l.toArray Q i (I λj=>j==i||L j) a w)
 (a':∀(L:Nat->Bool) (a:Act) (w:World),(∀i,i<n->L i=true)->I L a w->wpList P l.toArray Q (l.drop n) a w):
 ∀(h:Nat) (b:Array Bool) (a:Act) (w:World),b.size=l.length->(b.toList.take n).count false=h->(∀i,n<=i->b.getD i false=false)->
  (∀(i:Nat) (o:Oper),l[i]?=some o->b.getD i false=true->∀e∈o.after,Region.binds .any e=true->b.getD e.on false=true)->
  I (λj=>b.getD j false) a w->wpAny P .any l.toArray Q (h+(l.length-n)) b a w:=by
 intro h;induction h with
 |zero=>
  intro b a w hs hc a2 J z;have a3:∀i,i<n->b.getD i false=true:=λi c=>by
   rcases m:b.getD i false with _|_
   ·exfalso;have b2:i<b.size:=pm;have e:b[i]=false:=by simpa[b2]using m
    have hm:false∈b.toList.take n:=by rw[List.mem_take_iff_getElem];exact ⟨i,pp,by simpa using e⟩
    have:=BG.2 hm;omega
   rfl
  have hl:b=((List.range l.length).map λi=>decide (i<n)).toArray:=by
   apply Array.ext
   ·simp[hs]
   intro i f h2;simp only[List.getElem_toArray,yX,BE];by_cases q:i<n
   ·have:=a3 i q;simp only[q,zg];simpa[f]using this
   have:=a2 i pm;simp only[q,decide_false];simpa[f]using this
  rw[ef];have a8:(l.drop n).length=l.length-n:=pu
  rw[<-a8];refine wpAny_of_seq (l.drop n) n b a w (λj=>by simp[qL]) ?_ (a' _ a w a3 z);rw[a8,hl];exact b4
 |succ h ih=>
  intro b a w hs hc a2 J z;have a6:∃i,i<n/\b.getD i false=false:=by
   have hm:false∈b.toList.take n:=BG.1 pm;rw[List.mem_take_iff_getElem]at hm;obtain ⟨i,c,e⟩:=hm;have a7:i<n/\i<b.size:=by simp at c;omega
   refine ⟨i,a7.1,?_⟩;simp only[Array.getElem_toList]at e;simp[a7.2,e]
  have e1:h+1+(l.length-n)=h+(l.length-n)+1:=pm
  rw[e1];refine ⟨λhr=>?_,λi hm=>?_⟩
  ·exfalso;obtain ⟨i,c,m⟩:=a6;have:=FA he (by simpa using hs) hr i pp;rw[m]at this;cases this
  rw[mem_ready]at hm;obtain ⟨f,o,ho,U⟩:=hm;have s:l[i]?=some o:=by simpa using ho
  have c:i<b.size:=by rw[hs];exact (mD.1 s).1
  have hL:b.getD i false=false:=by rw[<-Ns c];exact f
  have b3:i<n:=by
   rcases eR i n with q|q
   ·exact q
   exfalso;obtain ⟨j,d,m⟩:=a6;have:=Qb (L:=λk=>b.getD k false) J 20 i j (abe ht pm q d) (λo' a9=>by rw[s]at a9;obtain rfl:=aH a9;exact U)
   rw[m]at this;cases this
  have p:(λj=>(b.setIfInBounds i true).getD j false)=(λj=>j==i||b.getD j false):=by
   funext j;by_cases d:j=i
   ·subst d;simp[c]
   have:¬i=j:=λh=>d h.symm;have b1:(j==i)=false:=by simpa using d
   rw[b1,jX];simp only[Array.getD,Array.size_setIfInBounds];by_cases a1:j<b.size
   ·simp only[a1,dite_true];exact Array.getElem_setIfInBounds_ne a1 this
   simp only[a1,dite_false]
  refine wpOp_mono (λa w b0=>?_) (step (λj=>b.getD j false) i o a w s b3 hL U z);refine ih _ a w (by simpa using hs) ?_ ?_ ?_ (by rw[p];exact b0)
  ·have e:b[i]=false:=by simpa[c]using hL
   rw[Array.toList_setIfInBounds,List.take_set];have hl:i<(b.toList.take n).length:=pp;rw[List.count_set hl];have e2:((b.toList.take n)[i]==false)=true:=(by simp[e]);rw[av e2,au ut];omega
  ·intro j d;have h0:(b.setIfInBounds i true).getD j false=(j==i||b.getD j false):=congrFun p j;have f:(j==i)=false:=(by rw[dC];omega);rw[h0,a2 j d,f];rfl
  intro k o' hk C e a5 a4;have h2:(b.setIfInBounds i true).getD k false=(k==i||b.getD k false):=congrFun p k;have h3:(b.setIfInBounds i true).getD e.on false=(e.on==i||b.getD e.on false):=congrFun p e.on;rw[h2]at C;rw[h3];by_cases q:k=i
  ·subst q;rw[s]at hk;obtain rfl:=aH hk;rw[U e a5 a4,zf]
  have:(k==i)=false:=by simpa using q
  rw[this,jX]at C;rw[J k o' hk C e a5 a4,zf]
def JV (hm:P.follows .mixedOrders=true)(h:wpAny P .any l.toArray Q l.toArray.size (Array.replicate l.toArray.size false) a0 w.drew):(Code.region id l.toArray true).wp P Q a0 w:=wp_region_any hm h
end
section
open Go.RowKit
def resolve_congr {d p:Operand->Value}(c:Call)(t:TypeId)(h:∀z∈c.operands,d z=p z):resolve d c t=resolve p c t:=by
 have q:c.args.map d=c.args.map p:=EU λz C=>h z (by unfold Call.operands;exact Array.mem_append.2 (Or.inr C));unfold resolve;cases e:c.callee with
 |value f=>have s:d f=p f:=h f (by unfold Call.operands;rw[e];simp);simp only[q,s]
 |invoke r m=>have s:d r=p r:=h r (by unfold Call.operands;rw[e];simp);simp only[q,s]
 |builtin b=>simp only[q]
def IS:Op->Bool
 | .move _| .assign _| .pick _ _ _| .alloc _| .box _ _| .build _ _| .buildSlice _ _ _| .load _ _| .store _ _ _| .nilCheck _| .binOp _ _ _ _ _| .unOp _ _ _| .convert _ _ _| .fieldAddr _ _ _| .indexAddr _ _ _| .index _ _ _| .field _ _ _| .makeInterface _ _| .makeSlice _ _ _| .slice _ _ _ _ _| .extract _ _| .call _=>true
 |_=>false
def Xo {m p:Operand->Value}(o:Oper)(J:IS o.op=true)(h:∀z∈o.op.operands,m z=p z):execOp m o=execOp p o:=by
 obtain ⟨dst,U,a1,a2,after,guard⟩:=o;cases U with
 |call c=>unfold execOp;simp only[];rw[resolve_congr c a1 h]
 |build t f=>
  unfold execOp;simp only[];rw[show f.map (λx=>(x.fst,m x.snd))=f.map (λx=>(x.fst,p x.snd))from EU λq b=>by rw[h q.2 (by simp only[Op.operands,List.mem_toArray,eS];exact ⟨q,by simpa using b,rfl⟩)]]
 |buildSlice t n f=>
  unfold execOp;simp only[];rw[show f.map (λx=>(x.fst,m x.snd))=f.map (λx=>(x.fst,p x.snd))from EU λq b=>by rw[h q.2 (by simp only[Op.operands,List.mem_toArray,eS];exact ⟨q,by simpa using b,rfl⟩)]]
 |slice t x C s I=>
  unfold execOp;simp only[];have e:∀(q:Option Operand),(∀z∈q,z∈(Op.slice t x C s I).operands)->q.map m=q.map p:=λq b=>by
   cases q with
   |none=>rfl
   |some z=>simp only[qP];rw[h z (b z rfl)]
  rw[h x (by simp[Op.operands]),e C (λz d=>by simp[Op.operands,Option.mem_def.1 d]),e s (λz d=>by simp[Op.operands,Option.mem_def.1 d]),e I (λz d=>by simp[Op.operands,Option.mem_def.1 d])]
 |_=>first
  |(simp[IS]at J;done)
  |(simp[Op.operands]at h;unfold execOp;simp only[h])
def gD(P:Program)(K:Value->World->Prop):Result Next->Prop
 | .ok (.value v) w=>K v w
 | .ok .skip w=>K undef w
 | .ok (.enter f args) w=>Calls P f args w λe y=>match e with| .returned v=>K v y|_=>False
 |_=>False
@[go_sem] theorem ada P (K:Value->World->Prop) v w:gD P K (.ok (.value v) w)=K v w:=rfl
@[go_sem] theorem acZ P (K:Value->World->Prop) w:gD P K (.ok .skip w)=K undef w:=rfl
@[go_sem] theorem acY P (K:Value->World->Prop) (f:FuncId) args w:gD P K (.ok (.enter f args) w)=Calls P f args w λe y=>match e with| .returned v=>K v y|_=>False:=rfl
def EC {a:Act}{K:Act->World->Prop}{d:Value->World->Prop}(b:∀v y,d v y->K (a.put o.dst v) y){r:Result Next}(h:gD P d r):o.upon P a K Q r:=by
 unfold gD at h;split at h
 ·exact b _ _ h
 ·exact b _ _ h
 ·refine Calls.mono h λe y c=>?_;split at c
  ·exact b _ _ c
  exact c.elim
 exact h.elim
structure dn where
 g:Nat
 v:Value
structure Tg(Sp:World->World->Prop)(x:World)(R:World->Prop)(Q:dn->World->Prop):Type where
def GV(v:Value)(x:World):Value->World->Prop:=λb y=>b=v/\x.grownBy y none
def GW(v:Value){Sp:World->World->Prop}{x:World}{R:World->Prop}{Q:dn->World->Prop}(_:Tg Sp x R Q):Value->World->Prop:=λb y=>b=v/\Sp x y/\R y
def GP(f:dn->Value){Sp:World->World->Prop}{x:World}{R:World->Prop}{Q:dn->World->Prop}(_:Tg Sp x R Q):Value->World->Prop:=λb y=>∃q,b=f q/\x.grownBy y none/\Q q y
def GQ(f:dn->Value){Sp:World->World->Prop}{x:World}{R:World->Prop}{Q:dn->World->Prop}(_:Tg Sp x R Q):Value->World->Prop:=λb y=>∃q,b=f q/\Sp x y/\R y/\Q q y
def DT:dn->World->Prop:=λ_ _=>True
def D6:World->World->Prop:=λ_ _=>True
def OZ:World->Prop:=λ_=>True
def gv (h:x.grownBy y none):GV v x v y:=⟨rfl,h⟩
def aq:GV v x v x:=⟨rfl,ak _ _⟩
def gw {Q:dn->World->Prop}{g:Tg Sp x R Q}(h:Sp x y)(r:R y):GW v g v y:=⟨rfl,h,r⟩
def gp {f:dn->Value}{Q:dn->World->Prop}{g:Tg Sp x R Q}(q:dn)(h:x.grownBy y none)(k:Q q y):GP f g (f q) y:=⟨q,rfl,h,k⟩
def gq {f:dn->Value}{Q:dn->World->Prop}{g:Tg Sp x R Q}(q:dn)(h:Sp x y)(r:R y)(k:Q q y):GQ f g (f q) y:=⟨q,rfl,h,r,k⟩
inductive Hv where
 |c (v:Value)
 |w (v:Value)
 |p (f:dn->Value)
 |d (j:Nat) (f:dn->Value)
def Hv.at(u:Nat->dn)(i:Nat):Hv->Value
 | .c v=>v
 | .w v=>v
 | .p f=>f (u i)
 | .d j f=>f (u j)
def slotsOf(b:Nat):Nat->List Oper->Ln
 |_,[]=>[]
 |i,o::r=>o.dst.getD (b+i)::slotsOf b (i+1) r
def I0(l:List Oper)(W:Ln)(i:Nat):Operand->Bool
 | .tmp s=>(List.range W.length).all λj=> !(W.getD j 0==s)||(decide (j<i)&&gF l 20 i j)
 |_=>true
def Pr(l:List Oper)(W:Ln)(i:Nat):Bool:=match l[i]?with
 |some o=>IS o.op&&o.op.operands.all (I0 l W i)
 |none=>true
def okB(b:Nat)(l:List Oper)(n:Nat):Bool:=
 qg .any l.toArray&&JD l n&&Region.seqB .any l.toArray (l.length-n) n (((List.range l.length).map λi=>decide (i<n)).toArray)&&decide (n<=l.length)&&uF b (l.take n) (slotsOf b 0 (l.take n))&&decide (slotsOf b 0 (l.take n)).Nodup&&(List.range n).all (Pr l (slotsOf b 0 (l.take n)))
def xA(l:List Oper)(ws:Ln)(i:Nat)(L:Nat->Bool):Prop:=(∀j,ws.contains j=true->gF l 20 i j=true->L j=true)/\∀j,ws.contains j=true->i=j\/gF l 20 j i=true->L j=false
def jT(i:Nat)(L:Nat->Bool):Nat->Bool:=λj=>j==i||L j
def mC (h:i≠j):jT i L j=L j:=by unfold jT;rw[show(j==i)=false by simpa using λe=>h e.symm,jX]
def og(i:Nat)(q:dn)(u:Nat->dn):Nat->dn:=λj=>if j=i then q else u j
section
variable(P:Program)(l:List Oper)(ws:Ln)(Sp:World->World->Prop)(R:(Nat->Bool)->(Nat->dn)->World->Prop)(w:World)(u:Nat->dn)
def Ch(i:Nat)(o:Oper)(A:Act)(v:Value):Prop:=∀L x,xA l ws i L->Sp w x->R L u x->gD P (GV v x) ((execOp A.eval o).run P x)
def Kl(i:Nat)(o:Oper)(A:Act)(v:Value):Prop:=∀L x,xA l ws i L->Sp w x->R L u x->gD P (λb y=>b=v/\Sp x y/\R (jT i L) u y) ((execOp A.eval o).run P x)
def Kh(i:Nat)(o:Oper)(A:Act)(f:dn->Value):Prop:=∀L x,xA l ws i L->Sp w x->R L u x->gD P (λb y=>∃q,b=f q/\Sp x y/\R (jT i L) (og i q u) y) ((execOp A.eval o).run P x)
def Ke(i:Nat)(o:Oper)(A:Act):Hv->Prop
 | .c v=>ws.contains i=false/\Ch P l ws Sp R w u i o A v
 | .w v=>ws.contains i=true/\Kl P l ws Sp R w u i o A v
 | .p f=>ws.contains i=true/\Kh P l ws Sp R w u i o A f
 | .d j f=>(!ws.contains i&&ws.contains j&&gF l 20 i j)=true/\Ch P l ws Sp R w u i o A (f (u j))
def Steps:Nat->List Oper->List Hv->Act->(Act->Prop)->Prop
 |i,o::r,h::hs,A,F=>Ke P l ws Sp R w u i o A h/\Steps (i+1) r hs (A.put o.dst (h.at u i)) F
 |_,[],[],A,F=>F A
 |_,_,_,_,_=>False
def qX:Nat->List Oper->List Hv->Act->Nat->Act
 |i,o::r,h::hs,A,k+1=>qX (i+1) r hs (A.put o.dst (h.at u i)) k
 |_,_,_,A,_=>A
end
section
variable{P:Program}{l:List Oper}{ws:Ln}{Sp:World->World->Prop}{R:(Nat->Bool)->(Nat->dn)->World->Prop}{w:World}{u:Nat->dn}
def QJ {hs:List Hv}{F:Act->Prop}(b:ws.contains i=false)(h:Ch P l ws Sp R w u i o A v)(t:Steps P l ws Sp R w u (i+1) r hs (A.put o.dst v) F):Steps P l ws Sp R w u i (o::r) (.c v::hs) A F:=⟨⟨b,h⟩,t⟩
def Et {hs:List Hv}{F:Act->Prop}(b:ws.contains i=true)(h:Kl P l ws Sp R w u i o A v)(t:Steps P l ws Sp R w u (i+1) r hs (A.put o.dst v) F):Steps P l ws Sp R w u i (o::r) (.w v::hs) A F:=⟨⟨b,h⟩,t⟩
def Jt {hs:List Hv}{F:Act->Prop}{f:dn->Value}(b:ws.contains i=true)(h:Kh P l ws Sp R w u i o A f)(t:Steps P l ws Sp R w u (i+1) r hs (A.put o.dst (f (u i))) F):Steps P l ws Sp R w u i (o::r) (.p f::hs) A F:=⟨⟨b,h⟩,t⟩
def aaJ {hs:List Hv}{F:Act->Prop}{f:dn->Value}(b:(!ws.contains i&&ws.contains j&&gF l 20 i j)=true)(h:Ch P l ws Sp R w u i o A (f (u j)))(t:Steps P l ws Sp R w u (i+1) r hs (A.put o.dst (f (u j))) F):Steps P l ws Sp R w u i (o::r) (.d j f::hs) A F:=⟨⟨b,h⟩,t⟩
def Eu:∀{c:List Oper} {hs:List Hv} {i:Nat} {A:Act} {F:Act->Prop},Steps P l ws Sp R w u i c hs A F->hs.length=c.length/\F (qX u i c hs A c.length)/\∀(k:Nat) (o:Oper) (h:Hv),c[k]?=some o->hs[k]?=some h->Ke P l ws Sp R w u (i+k) o (qX u i c hs A k) h
 |[],[],_,_,_,t=>⟨rfl,t,λk o h e=>by simp at e⟩
 |_::_,[],_,_,_,t=>t.elim
 |[],_::_,_,_,_,t=>t.elim
 |o::r,h::hs,i,A,F,t=>by
  obtain ⟨m,p,q⟩:=Eu t.2;refine ⟨by simp[m],p,λk f d a b=>?_⟩;cases k with
  |zero=>
   obtain rfl:o=f:=by simpa using a
   obtain rfl:h=d:=by simpa using b
   exact t.1
  |succ k=>have:=q k f d (by simpa using a) (by simpa using b);rwa[show i+1+k=i+(k+1) by omega]at this
def IV (A:Act)(d s:Nat) v:(A.put (some d) v).tmps.getD s undef=if d=s/\s<A.tmps.size then v else A.tmps.getD s undef:=by
 simp only[Act.put,wT,Array.getElem?_setIfInBounds];by_cases h:d=s
 ·subst h;by_cases b:d<A.tmps.size
  ·simp[b]
  simp[b]
 simp[h]
def AJ (A:Act)(d:Option Nat) v:(A.put d v).tmps.size=A.tmps.size:=by cases d<;>simp[Act.put]
def Ck (s:Nat):∀(a1:List Oper) (hs:List Hv) (W:Ln) (c:Lv) (A B:Act) (k i:Nat),uF A.tmps.size a1 W=true->hs.length=a1.length->c.length=W.length->A.tmps.size=B.tmps.size->A.tmps.getD s undef=B.tmps.getD s undef->
 (∀j,W[j]?=some s->j<k/\∀h,hs[j]?=some h->c.getD j undef=h.at u (i+j))->(qX u i a1 hs A k).tmps.getD s undef=(gU B W c).tmps.getD s undef
 |[],hs,W,c,A,B,k,i,b,f,z,C,m,p=>by
  have:W=[]:=by cases W<;>first|rfl|cases b
  subst this;cases hs<;>first|(cases k<;>exact m)|(simp at f)
 |o::r,[],W,c,A,B,k,i,b,f,z,C,m,p=>by simp at f
 |o::r,h::hs,[],c,A,B,k,i,b,f,z,C,m,p=>by cases b
 |o::r,h::hs,I::W,[],A,B,k,i,b,f,z,C,m,p=>by simp at z
 |o::r,h::hs,I::W,v::c,A,B,k,i,b,f,z,C,m,p=>by
  have a3:=b;simp only[uF,fY]at b;obtain ⟨⟨J,w2⟩,w3⟩:=b;rw[gU];cases k with
  |zero=>
   have a2:I≠s:=λe=>by have:=(p 0 (by simp[e])).1;omega
   have:=Ck s r hs W c A (B.put (some I) v) 0 (i+1) w3 (by simpa using f) (by simpa using z) (by rw[AJ];exact C) (by rw[IV,au (λe=>a2 e.1)];exact m) (λj U=>by have:=(p (j+1) (by simpa using U)).1;omega);rw[<-this];show A.tmps.getD s undef=_;cases r<;>cases hs<;>rfl
  |succ k=>
   refine Ck s r hs W c (A.put o.dst (h.at u i)) (B.put (some I) v) k (i+1) (by rw[AJ];exact w3) (by simpa using f) (by simpa using z) (by rw[AJ,AJ];exact C) ?_ (λj U=>?_)
   ·rw[IV];cases hd:o.dst with
    |none=>
     rw[hd]at J;have J:A.tmps.size<=I:=by simpa using J
     rw[au pm];exact m
    |some d=>
     rw[hd]at J;obtain rfl:d=I:=by simpa using J
     rw[IV,C];by_cases q:d=s/\s<B.tmps.size
     ·rw[av q,av q];have:=(p 0 (by simp[q.1])).2 h rfl;simpa using this.symm
     rw[au q,au q];exact m
   have:=p (j+1) (by simpa using U);exact ⟨pm,λh' e=>by rw[show i+1+j=i+(j+1) by omega];exact this.2 h' (by simpa using e)⟩
end
def Hw (n:Nat) ws (hs:List Hv)(Sp:World->World->Prop)(R:(Nat->Bool)->(Nat->dn)->World->Prop)(c0:okB a0.tmps.size l n=true)
 (a':∀x y,x.grownBy y none->Sp x y) (c5:∀x y z,Sp x y->Sp y z->Sp x z) (c4:∀u,R (λ_=>false) u w) (a9:∀L u x y,R L u x->x.grownBy y none->R L u y) (e0:∀L u I x,(∀j,L j=true->u j=I j)->R L u x->R L I x)
 (h:∀u,Steps P l ws Sp R w u 0 (l.take n) hs a0 λA=>∀x,Sp w x->R (λj=>ws.contains j&&decide (j<n)) u x->wpList P l.toArray Q (l.drop n) A x):wpAny P .any l.toArray Q l.toArray.size (Array.replicate l.toArray.size false) a0 w.drew:=by
 simp only[okB,fY]at c0;obtain ⟨⟨⟨⟨⟨⟨he,ht⟩,d8⟩,b3⟩,hW⟩,hn⟩,d6⟩:=c0;have b3:n<=l.length:=BI b3;have hn:(slotsOf a0.tmps.size 0 (l.take n)).Nodup:=BI hn;generalize slotsOf a0.tmps.size 0 (l.take n)=W at*;obtain ⟨e2,c6⟩:=Pn hW;have b2:(l.take n).length=n:=pp
 obtain ⟨b1, -, -⟩:=Eu (h (λ_=>⟨0,undef⟩));rw[b2]at b1;have key:=acB (P:=P) (l:=l) (Q:=Q) n b3 he ht d8 (λL a x=>∃(b:Lv) (u:Nat->dn),b.length=W.length/\a=gU a0 W b/\Sp w x/\R (λj=>ws.contains j&&L j) u x/\(∀i,n<=i->L i=false)/\(∀(i:Nat) (o:Oper),l[i]?=some o->L i=true->∀e∈o.after,Region.binds .any e=true->L e.on=true)/\∀(k:Nat) (h:Hv),hs[k]?=some h->L k=true->b.getD k undef=h.at u k) ?_ ?_ n (Array.replicate l.length false) a0 w.drew pu ?_ ?_ ?_ ?_
 ·have e:n+(l.length-n)=l.toArray.size:=pp
  rw[e]at key;simpa using key
 ·rintro L i o a x ho b' a8 b8 ⟨b,u,hv,rfl,hg,hr,b0,hc,hp⟩;have c3:(l.take n)[i]?=some o:=by rw[List.getElem?_take_of_lt b'];exact ho
  obtain ⟨d2,s,d7,c'⟩:=c6 i o c3;have d3:i<hs.length:=pm
  have b9:hs[i]?=some hs[i]:=by simp[d3]
  obtain ⟨-, -,c1⟩:=Eu (h u);have J:=c1 i o hs[i] c3 b9;rw[ef]at J;have c7:∀N,i=N\/gF l 20 N i=true->L N=false:=λN h=>by
   rcases h with h|h
   ·rw[<-h];exact a8
   cases hN:L N with
   |false=>rfl
   |true=>have:=Ef hc 20 N i h hN;rw[a8]at this;cases this
  have b7:∀N,gF l 20 i N=true->L N=true:=λN h=>Qb hc 20 i N h (λo' a5=>by rw[ho]at a5;obtain rfl:=aH a5;exact b8)
  have a4:xA l ws i (λj=>ws.contains j&&L j):=⟨λj h1 h2=>by simp only[h1,b7 j h2,Bool.and_self],λj h1 h2=>by simp only[c7 j h2,Bool.and_false]⟩;have a2:=nA.1 d6 i (pM.2 b');unfold Pr at a2;rw[ho]at a2;simp only[fY]at a2;have d0:execOp (qX u 0 (l.take n) hs a0 i).eval o=execOp (gU a0 W b).eval o:=by
   refine Xo o a2.1 λz hz=>?_;have d':=Bj.1 a2.2 z hz;cases z with
   |tmp t=>refine Ck (u:=u) t (l.take n) hs W b a0 a0 i 0 hW (by rw[b1,b2]) hv rfl rfl λj hj=>?_;have h3:=nA.1 d' j (pM.2 (mD.1 hj).1);have h4:W.getD j 0=t:=(by rw[dh,hj];rfl);simp only[h4,beq_self_eq_true,Bool.not_true,jX,fY,kr]at h3;exact ⟨h3.1,λh' e=>by rw[ef];exact hp j h' e (b7 j h3.2)⟩
   |_=>rfl
  have a6:∀q,ws.contains i=q->(λj=>ws.contains j&&(j==i||L j))=if q then jT i (λj=>ws.contains j&&L j)else λj=>ws.contains j&&L j:=λq hq=>by
   funext j;cases q with
   |false=>
    show(ws.contains j&&(j==i||L j))=(ws.contains j&&L j);by_cases e:j=i
    ·rw[e,hq];rfl
    have:(j==i)=false:=by simpa using e
    rw[this,jX]
   |true=>
    show(ws.contains j&&(j==i||L j))=(j==i||(ws.contains j&&L j));by_cases e:j=i
    ·rw[e,hq];simp
    have:(j==i)=false:=by simpa using e
    rw[this,jX,jX]
  have qq:∀(I:Nat->dn),(∀j,L j=true->I j=u j)->∀C,hs[i].at I i=C->∀(k:Nat) (h:Hv),hs[k]?=some h->(k==i||L k)=true->(b.set i C).getD k undef=h.at I k:=λI hu C b4 k h' m hL=>by
   have c8:∀(k:Nat) (h:Hv),hs[k]?=some h->L k=true->h.at I k=h.at u k:=λk h' m a1=>by
    have e1:k<hs.length:=(mD.1 m).1;have d4:k<(l.take n).length:=pm;cases h' with
    |c v=>rfl
    |w v=>rfl
    |p f=>exact iQ f (hu k a1)
    |d j f=>have:=(c1 k (l.take n)[k] _ (aW d4) m).1;simp only[fY,ef]at this;exact iQ f (hu j (Ef hc 20 k j this.2 a1))
   by_cases e:k=i
   ·subst e;have d5:k<b.length:=pm;rw[dh,kN d5];rw[b9]at m;obtain rfl:=aH m;exact b4.symm
   have a1:L k=true:=by
    have:(k==i)=false:=by simpa using e
    rwa[this,jX]at hL
   rw[dh,lJ (λh=>e h.symm),<-dh,hp k h' m a1];exact (c8 k h' m a1).symm
  have a3:∀(I:Nat->dn) (C:Value) (y:World),(∀j,L j=true->I j=u j)->hs[i].at I i=C->Sp x y->R (λj=>ws.contains j&&(j==i||L j)) I y->
   ∃(b5:Lv) (u:Nat->dn),b5.length=W.length/\(gU a0 W b).put o.dst C=gU a0 W b5/\Sp w y/\R (λj=>ws.contains j&&(j==i||L j)) u y/\(∀j,n<=j->(j==i||L j)=false)/\(∀(k:Nat) (o:Oper),l[k]?=some o->(k==i||L k)=true->∀e∈o.after,Region.binds .any e=true->(e.on==i||L e.on)=true)/\∀(k:Nat) (h:Hv),hs[k]?=some h->(k==i||L k)=true->b5.getD k undef=h.at u k:=λI C y hu b4 d9 hR=>by
   refine ⟨b.set i C,I,by simp[hv],?_,c5 _ _ _ hg d9,hR,?_,?_,qq I hu C b4⟩
   ·rw[On W b a0 i s C hn d7 hv];rcases c' with h|⟨h,h2⟩
    ·rw[h]
    rw[h,PT _ _ _ (by rw[Il];exact h2)];rfl
   ·intro j hj;have e:(j==i)=false:=(by rw[dC];omega);rw[e,jX];exact b0 j hj
   intro k o' m hL e he b6;by_cases q:k=i
   ·subst q;rw[ho]at m;obtain rfl:=aH m;rw[b8 e he b6,zf]
   have:(k==i)=false:=by simpa using q
   rw[this,jX]at hL;rw[hc k o' m hL e he b6,zf]
  unfold wpOp;have a5:l.toArray[i]?=some o:=by simpa using ho
  simp only[a5];rw[av (by unfold Region.wanted;rw[d2])];refine Or.inl ?_;unfold Oper.wp;rw[<-d0];cases m:hs[i]with
  |c v=>rw[m]at J;refine EC (λC y U=>?_) (J.2 _ x a4 hg hr);refine a3 u C y (λ_ _=>rfl) (by rw[m];exact U.1.symm) (a' _ _ U.2) ?_;rw[a6 _ J.1];exact a9 _ _ _ _ hr U.2
  |d j f=>rw[m]at J;refine EC (λC y U=>?_) (J.2 _ x a4 hg hr);refine a3 u C y (λ_ _=>rfl) (by rw[m];exact U.1.symm) (a' _ _ U.2) ?_;have h1:=J.1;simp only[fY,Bool.not_eq_true']at h1;rw[a6 _ h1.1.1];exact a9 _ _ _ _ hr U.2
  |w v=>rw[m]at J;refine EC (λC y U=>?_) (J.2 _ x a4 hg hr);refine a3 u C y (λ_ _=>rfl) (by rw[m];exact U.1.symm) U.2.1 ?_;rw[a6 _ J.1];exact U.2.2
  |p f=>
   rw[m]at J;refine EC (λC y U=>?_) (J.2 _ x a4 hg hr);obtain ⟨q,h1,h2,h3⟩:=U;refine a3 (og i q u) C y (λj hj=>?_) ?_ h2 ?_
   ·unfold og;rw[au (λe=>by rw[e,a8]at hj;cases hj)]
   ·rw[m,h1];show f (og i q u i)=f q;unfold og;rw[av rfl]
   rw[a6 _ J.1];exact h3
 ·rintro L a x hL ⟨b,u,hv,rfl,hg,hr,b0,hc,hp⟩;obtain ⟨-,hF, -⟩:=Eu (h u);have e:(λj=>ws.contains j&&L j)=λj=>ws.contains j&&decide (j<n):=by
   funext N;by_cases h:N<n
   ·rw[hL N h,tK h]
   rw[b0 N pm,BQ h]
  rw[e]at hr;have d1:qX u 0 (l.take n) hs a0 (l.take n).length=gU a0 W b:=by
   have c2:∀(a7:List Oper) (hs:List Hv) (A:Act) (k i:Nat),(qX u i a7 hs A k).tmps.size=A.tmps.size/\(qX u i a7 hs A k).defers=A.defers:=by
    intro a7;induction a7 with
    |nil=>intro hs A k i;cases hs<;>cases k<;>exact ⟨rfl,rfl⟩
    |cons o r ih=>
     intro hs A k i;cases hs with
     |nil=>cases k<;>exact ⟨rfl,rfl⟩
     |cons h hs=>
      cases k with
      |zero=>exact ⟨rfl,rfl⟩
      |succ k=>have:=ih hs (A.put o.dst (h.at u i)) k (i+1);rw[AJ]at this;exact ⟨this.1,this.2.trans (by cases o.dst<;>rfl)⟩
   have c9:∀(W:Ln) (b:Lv) (A:Act),(gU A W b).defers=A.defers:=by
    intro W;induction W with
    |nil=>intro b A;cases b<;>rfl
    |cons s W ih=>intro b A;cases b with
     |nil=>rfl
     |cons v b=>exact ih b _
   have ht:(qX u 0 (l.take n) hs a0 (l.take n).length).tmps=(gU a0 W b).tmps:=by
    apply yV;intro t;have h1:=(c2 (l.take n) hs a0 (l.take n).length 0).1;have h2:=Il W b a0;have h3:=Ck (u:=u) t (l.take n) hs W b a0 a0 (l.take n).length 0 hW (by rw[b1,b2]) hv rfl rfl λj hj=>by have:j<W.length:=(mD.1 hj).1;exact ⟨pm,λh' e=>by rw[ef];exact hp j h' e (hL j pm)⟩
    by_cases q:t<a0.tmps.size
    ·rw[wT,wT,uY (h:=pm),uY (h:=pm)]at h3;rw[uY (h:=pm),uY (h:=pm)];exact iQ some h3
    rw[tC pm,tC pm]
   have hd:=(c2 (l.take n) hs a0 (l.take n).length 0).2.trans (c9 W b a0).symm;generalize qX u 0 (l.take n) hs a0 (l.take n).length=X at*;generalize gU a0 W b=Y at*;cases X;cases Y;simp only at ht hd;rw[ht,hd]
  rw[<-d1];exact hF x hg hr
 ·simp;omega
 ·intro i _;simp[Array.getD]
 ·intro i o _ h;simp[Array.getD]at h
 have hz:∀N,(Array.replicate l.length false).getD N false=false:=λN=>by simp[Array.getD]
 refine ⟨W.map λs=>a0.tmps.getD s undef,λ_=>⟨0,undef⟩,pu,?_,a' _ _ (aM (ak w none)),?_,λi _=>hz i,λi o _ h=>absurd ((hz i).symm.trans h) pu,λj p _ h=>absurd ((hz j).symm.trans h) pu⟩
 ·have:∀(W:Ln) (a:Act),gU a W (W.map λs=>a.tmps.getD s undef)=a:=by
   intro W;induction W with
   |nil=>intro a;rfl
   |cons s W ih=>
    intro a;have e:a.put (some s) (a.tmps.getD s undef)=a:=by
     by_cases h:s<a.tmps.size
     ·simp only[Act.put];have:a.tmps.setIfInBounds s (a.tmps.getD s undef)=a.tmps:=by
       apply yV;intro i;by_cases q:s=i
       ·subst q;simp[h]
       rw[qH q]
      rw[this]
     exact PT _ _ _ pm
    rw[oC,gU,e];exact ih a
  exact (this W a0).symm
 have e:(λj=>ws.contains j&&(Array.replicate l.length false).getD j false)=λ_=>false:=by funext j;rw[hz j,Bool.and_false]
 rw[e];exact a9 _ _ _ _ (c4 _) (aM (ak w none))
section
variable(P:Program)(w:World)
def xG:List Oper->Act->(Act->Prop)->Prop
 |o::r,A,F=>∃v,(∀x,w.grownBy x none->gD P (GV v x) ((execOp A.eval o).run P x))/\xG r (A.put o.dst v) F
 |[],A,F=>F A
end
def rn {F:Act->Prop}(h:∀x,w.grownBy x none->gD P (GV v x) ((execOp A.eval o).run P x))(t:xG P w r (A.put o.dst v) F):xG P w (o::r) A F:=⟨v,h,t⟩
def Qi {P}{l:List Oper}{w}{F:Act->Prop}:∀{b:List Oper} {A:Act},xG P w b A F->∃hs,∀(u:Nat->dn) (i:Nat),Steps P l [] (λx y=>x.grownBy y none) (λ_ _ _=>True) w u i b hs A F
 |[],A,h=>⟨[],λ_ _=>h⟩
 |o::r,A,⟨v,h,t⟩=>by obtain ⟨hs,k⟩:=Qi t;exact ⟨.c v::hs,λu i=>⟨⟨rfl,λL x _ d _=>h x d⟩,k u (i+1)⟩⟩
def fe (n:Nat)(hm:P.follows .mixedOrders=true)(b:okB a0.tmps.size l n=true)
 (h:xG P w (l.take n) a0 λA=>∀x,w.grownBy x none->wpList P l.toArray Q (l.drop n) A x):(Code.region id l.toArray true).wp P Q a0 w:=by
 obtain ⟨hs,k⟩:=Qi (l:=l) h;refine JV hm (Hw n [] hs (λx y=>x.grownBy y none) (λ_ _ _=>True) b (λ_ _ h=>h) (λ_ _ _=>ai) (λ_=>True.intro) (λ_ _ _ _ _ _=>True.intro) (λ_ _ _ _ _ _=>True.intro) λu=>?_);have e:(λA=>∀x,w.grownBy x none->wpList P l.toArray Q (l.drop n) A x)=λA=>∀x,w.grownBy x none->True->wpList P l.toArray Q (l.drop n) A x:=by funext A;exact propext ⟨λh x g _=>h x g,λh x g=>h x g True.intro⟩
 rw[<-e];exact k u 0
def rz {F:Act->Prop}(h:F A):xG P w [] A F:=h
section
variable{P:Program}{l:List Oper}{N1 N2 M:Nat}{Sp:World->World->Prop}{R:Bool->Bool->Option Value->World->Prop}{w:World}{u:Nat->dn}
def R3(N1 N2 M:Nat)(R:Bool->Bool->Option Value->World->Prop):(Nat->Bool)->(Nat->dn)->World->Prop:=λL u x=>R (L N1) (L N2) (if L M then some (u M).v else none) x
def Hy (n N1 N2 M:Nat)(Sp:World->World->Prop)(R:Bool->Bool->Option Value->World->Prop)(hs:List Hv)(hm:P.follows .mixedOrders=true)(C:okB a0.tmps.size l n=true)
 (p:∀x y,x.grownBy y none->Sp x y) (q:∀x y z,Sp x y->Sp y z->Sp x z) (d:R false false none w) (f:∀b c m x y,R b c m x->x.grownBy y none->R b c m y)
 (h:∀u,Steps P l [N1,N2,M] Sp (R3 N1 N2 M R) w u 0 (l.take n) hs a0 λA=>∀x,Sp w x->R (decide (N1<n)) (decide (N2<n)) (if decide (M<n)then some (u M).v else none) x->wpList P l.toArray Q (l.drop n) A x):(Code.region id l.toArray true).wp P Q a0 w:=by
 refine JV hm (Hw n [N1,N2,M] hs Sp (R3 N1 N2 M R) C p q (λ_=>d) (λ_ _ _ _ k g=>f _ _ _ _ _ k g) (λL u J x I k=>?_) λu=>?_)
 ·unfold R3 at*;by_cases e:L M=true
  ·rw[e,<-I M e];rw[e]at k;exact k
  simp only[e,oE,tG]at k⊢;exact k
 have e:∀j∈[N1,N2,M],([N1,N2,M].contains j&&decide (j<n))=decide (j<n):=λj s=>by simp only[ER,s,zg,BW]
 have:=h u;unfold R3;simp only[e N1 pu,e N2 pu,e M pu];exact this
def xy(l:List Oper)(N1 N2 M:Nat)(Sp:World->World->Prop)(R:Bool->Bool->Option Value->World->Prop)(w:World)(u:Nat->dn)(i:Nat)(G:Bool->Bool->Option Value->World->Prop):Prop:=
 ∀(b c:Bool) (m:Option Value) (x:World),(gF l 20 i N1=true->b=true)->(i=N1\/gF l 20 N1 i=true->b=false)->(gF l 20 i N2=true->c=true)->(i=N2\/gF l 20 N2 i=true->c=false)->(gF l 20 i M=true->m=some (u M).v)->(i=M\/gF l 20 M i=true->m=none)->Sp w x->R b c m x->G b c m x
def xy.go {G:Bool->Bool->Option Value->World->Prop}(h:xy l N1 N2 M Sp R w u i G)(d:xA l [N1,N2,M] i L)(hs:Sp w x)(k:R3 N1 N2 M R L u x):G (L N1) (L N2) (if L M then some (u M).v else none) x:=
 h _ _ _ x (λe=>d.1 N1 pu e) (λe=>d.2 N1 pu e) (λe=>d.1 N2 pu e) (λe=>d.2 N2 pu e) (λe=>by rw[d.1 M pu e];rfl) (λe=>by rw[d.2 M pu e];rfl) hs k
variable{i:Nat}{o:Oper}{r:List Oper}{hs:List Hv}{A:Act}{F:Act->Prop}
def py (b:[N1,N2,M].contains i=false)(h:xy l N1 N2 M Sp R w u i λ_ _ _ x=>gD P (GV v x) ((execOp A.eval o).run P x))(t:Steps P l [N1,N2,M] Sp (R3 N1 N2 M R) w u (i+1) r hs (A.put o.dst v) F):Steps P l [N1,N2,M] Sp (R3 N1 N2 M R) w u i (o::r) (.c v::hs) A F:=
 QJ b (λL x d hs k=>h.go d hs k) t
def Jx (b:(N1 !=N2&&N1 !=M)=true)(h:xy l N1 N2 M Sp R w u N1 λ_ c m x=>gD P (GW v (⟨⟩:Tg Sp x (λy=>R true c m y) DT)) ((execOp A.eval o).run P x))(t:Steps P l [N1,N2,M] Sp (R3 N1 N2 M R) w u (N1+1) r hs (A.put o.dst v) F):Steps P l [N1,N2,M] Sp (R3 N1 N2 M R) w u N1 (o::r) (.w v::hs) A F:=
 Et pu (λL x d hs k=>by
  have:=h.go d hs k;simp only[fY,dY]at b;have e:jT N1 L N1=true:=by simp[jT]
  have f:jT N1 L N2=L N2:=mC b.1;have p:jT N1 L M=L M:=mC b.2;unfold R3;rw[e,f,p];exact this) t
def QR (b:(N1 !=N2&&N2 !=M)=true)(h:xy l N1 N2 M Sp R w u N2 λc _ m x=>gD P (GW v (⟨⟩:Tg Sp x (λy=>R c true m y) DT)) ((execOp A.eval o).run P x))(t:Steps P l [N1,N2,M] Sp (R3 N1 N2 M R) w u (N2+1) r hs (A.put o.dst v) F):Steps P l [N1,N2,M] Sp (R3 N1 N2 M R) w u N2 (o::r) (.w v::hs) A F:=
 Et pu (λL x d hs k=>by
  have:=h.go d hs k;simp only[fY,dY]at b;have f:jT N2 L N2=true:=by simp[jT]
  have p:jT N2 L N1=L N1:=mC λe=>b.1 e.symm;have q:jT N2 L M=L M:=mC b.2;unfold R3;rw[f,p,q];exact this) t
def Jy (f:Value->Value)(c:(N1 !=M&&N2 !=M)=true)(h:xy l N1 N2 M Sp R w u M λz C _ x=>gD P (GQ (λq=>f q.v) (⟨⟩:Tg Sp x OZ λq y=>R z C (some q.v) y)) ((execOp A.eval o).run P x))(t:Steps P l [N1,N2,M] Sp (R3 N1 N2 M R) w u (M+1) r hs (A.put o.dst (f (u M).v)) F):Steps P l [N1,N2,M] Sp (R3 N1 N2 M R) w u M (o::r) (.p (λq=>f q.v)::hs) A F:=
 Jt pu (λL x d hs k=>by
  have:=h.go d hs k;simp only[fY,dY]at c;have I:jT M L M=true:=by simp[jT]
  have J:jT M L N1=L N1:=mC λe=>c.1 e.symm;have U:jT M L N2=L N2:=mC λe=>c.2 e.symm;unfold R3;rw[I,J,U];have mono:∀{K b:Value->World->Prop} {r:Result Next},(∀v y,K v y->b v y)->gD P K r->gD P b r:=λ{K b} {r} s h=>by
   unfold gD at*;split at h
   ·exact s _ _ h
   ·exact s _ _ h
   ·exact Calls.mono h λe y m=>by
     split at m
     ·exact s _ _ m
     exact m.elim
   exact h.elim
  refine mono (λv' y hy=>?_) this;obtain ⟨q,h1,h2,_,h3⟩:=hy;exact ⟨q,h1,h2,by rw[av rfl];show R _ _ (some (og M q u M).v) y;unfold og;rw[av rfl];exact h3⟩) t
def tz (h:F A):Steps P l [N1,N2,M] Sp (R3 N1 N2 M R) w u i [] [] A F:=h
end
abbrev mc:=Nat×(dn->World->Prop)
section
variable{P:Program}{l:List Oper}{N1 N2:Nat}{Sp:World->World->Prop}{R:Bool->Bool->World->Prop}{prs:List mc}{w:World}{u:Nat->dn}
def fv(N1 N2:Nat)(prs:List mc):Ln:=N1::N2::prs.map (·.1)
def RP(N1 N2:Nat)(R:Bool->Bool->World->Prop)(prs:List mc):(Nat->Bool)->(Nat->dn)->World->Prop:=λL u x=>R (L N1) (L N2) x/\∀(k:Nat) (t:mc),prs[k]?=some t->L t.1=true->t.2 (u t.1) x
def QM(i:Nat)(S:World->World->Prop):List mc->Prop
 |[]=>True
 |t::r=>(t.1≠i->∀q x y,t.2 q x->S x y->t.2 q y)/\QM i S r
def QM.at {i:Nat}{S:World->World->Prop}:∀{prs:List mc},QM i S prs->∀(k:Nat) (t:mc),prs[k]?=some t->t.1≠i->∀q x y,t.2 q x->S x y->t.2 q y
 |[],_,k,t,h=>by simp at h
 |a::r,b,0,t,h=>by
  obtain rfl:a=t:=by simpa using h
  exact b.1
 |a::r,b,k+1,t,h=>QM.at b.2 k t (by simpa using h)
def DJ(n N1 N2:Nat)(b:Ln):Bool:=N1 !=N2&&b.all (λj=>decide (j<n))&&decide b.Nodup
structure eF(n N1 N2:Nat)(Sp:World->World->Prop)(R:Bool->Bool->World->Prop)(prs:List mc):Prop where
 sn:∀x y,x.grownBy y none->Sp x y
 st:∀x y z,Sp x y->Sp y z->Sp x z
 rn:∀b1 b2 x y,R b1 b2 x->x.grownBy y none->R b1 b2 y
 qn:QM n (λx y=>x.grownBy y none) prs
 q1:N1<n->QM N1 Sp prs
 q2:N2<n->QM N2 Sp prs
 hb:DJ n N1 N2 (prs.map (·.1))=true
def eF.ne (H:eF n N1 N2 Sp R prs):N1≠N2:=by have:=H.hb;unfold DJ at this;simp only[fY,dY]at this;exact this.1.1
def eF.lt (H:eF n N1 N2 Sp R prs){t:mc}(e:prs[k]?=some t):t.1<n:=by have:=H.hb;unfold DJ at this;simp only[fY]at this;exact BI (nA.1 this.1.2 t.1 (eS.2 ⟨t,dc e,rfl⟩))
def eF.nodup (H:eF n N1 N2 Sp R prs):(prs.map (·.1)).Nodup:=by have:=H.hb;unfold DJ at this;simp only[fY,kr]at this;exact this.2
def Kn(l:List Oper)(prs:List mc)(i:Nat)(u:Nat->dn)(x:World):Prop:=∀(k:Nat) (t:mc),prs[k]?=some t->gF l 20 i t.1=true->t.2 (u t.1) x
def Kz(prs:List mc)(u:Nat->dn)(x:World):Prop:=∀(k:Nat) (t:mc),prs[k]?=some t->t.2 (u t.1) x
def Kn.at {Q:dn->World->Prop}(h:Kn l prs i u x)(e:prs[k]?=some (j,Q))(r:gF l 20 i j=true):Q (u j) x:=h k (j,Q) e r
def Kz.at {Q:dn->World->Prop}(h:Kz prs u x)(e:prs[k]?=some (j,Q)):Q (u j) x:=h k (j,Q) e
def FP {base:Nat}(c:∀b∈G,b<base)(h:base<=g/\ab x g t cs)(k:aC x y G):base<=g/\ab y g t cs:=⟨h.1,k.bu h.2 λhm=>by have:=c g hm;omega⟩
def gT (H:eF n N1 N2 Sp R prs)(hm:P.follows .mixedOrders=true)(m:okB a0.tmps.size l n=true)(d:R false false w)(hs:List Hv)
 (h:∀u,Steps P l (fv N1 N2 prs) Sp (RP N1 N2 R prs) w u 0 (l.take n) hs a0 λA=>∀x,Sp w x->R (decide (N1<n)) (decide (N2<n)) x->Kz prs u x->wpList P l.toArray Q (l.drop n) A x):(Code.region id l.toArray true).wp P Q a0 w:=by
 refine JV hm (Hw n (fv N1 N2 prs) hs Sp (RP N1 N2 R prs) m H.sn H.st (λ_=>⟨d,λ_ _ _ e=>by cases e⟩) (λL u x y k g=>⟨H.rn _ _ _ _ k.1 g,λj t e b=>H.qn.at j t e (by have:=H.lt e;omega) _ _ _ (k.2 j t e b) g⟩) (λL u s x p k=>⟨k.1,λj t e b=>by rw[<-p t.1 b];exact k.2 j t e b⟩) λu=>?_);have c:∀j∈fv N1 N2 prs,((fv N1 N2 prs).contains j&&decide (j<n))=decide (j<n):=λj f=>by rw[EP.2 f,BW]
 have e:(λA=>∀x,Sp w x->RP N1 N2 R prs (λj=>(fv N1 N2 prs).contains j&&decide (j<n)) u x->wpList P l.toArray Q (l.drop n) A x)=λA=>∀x,Sp w x->R (decide (N1<n)) (decide (N2<n)) x->Kz prs u x->wpList P l.toArray Q (l.drop n) A x:=by funext A;unfold RP;dsimp only;rw[c N1 (by simp[fv]),c N2 (by simp[fv])];refine propext ⟨λh x g r q=>h x g ⟨r,λk t e _=>q k t e⟩,λh x g r=>h x g r.1 λk t e=>r.2 k t e ?_⟩;rw[c t.1 (by simp only[fv,bp,eS];exact Or.inr (Or.inr ⟨t,dc e,rfl⟩)),tK (H.lt e)]
 rw[e];exact h u
def KR {D:Option Nat}{base:Nat}(b:∀B,D=some B->B<base)(h:base<=g/\ab x g t cs)(k:x.grownBy y D):base<=g/\ab y g t cs:=⟨h.1,h.2.kept k (λe=>by have:=b g e.symm;have:=h.1;omega)⟩
def tS(l:List Oper)(N1 N2:Nat)(Sp:World->World->Prop)(R:Bool->Bool->World->Prop)(prs:List mc)(w:World)(u:Nat->dn)(i:Nat)(G:Bool->Bool->World->Prop):Prop:=
 ∀(b c:Bool) (x:World),(gF l 20 i N1=true->b=true)->(i=N1\/gF l 20 N1 i=true->b=false)->(gF l 20 i N2=true->c=true)->(i=N2\/gF l 20 N2 i=true->c=false)->Kn l prs i u x->Sp w x->R b c x->G b c x
def Iw {t:mc}(e:prs[k]?=some t):(fv N1 N2 prs).contains t.1=true:=EP.2 (by simp only[fv,bp,eS];exact Or.inr (Or.inr ⟨t,dc e,rfl⟩))
def tS.go {G:Bool->Bool->World->Prop}(h:tS l N1 N2 Sp R prs w u i G)(d:xA l (fv N1 N2 prs) i L)(hs:Sp w x)(k:RP N1 N2 R prs L u x):G (L N1) (L N2) x:=
 h _ _ x (λe=>d.1 N1 (by simp[fv]) e) (λe=>d.2 N1 (by simp[fv]) e) (λe=>d.1 N2 (by simp[fv]) e) (λe=>d.2 N2 (by simp[fv]) e) (λj t e b=>k.2 j t e (d.1 t.1 (Iw e) b)) hs k.1
variable{i:Nat}{o:Oper}{r:List Oper}{hs:List Hv}{A:Act}{F:Act->Prop}
def aX (b:(fv N1 N2 prs).contains i=false)(h:tS l N1 N2 Sp R prs w u i λ_ _ x=>gD P (GV v x) ((execOp A.eval o).run P x))(t:Steps P l (fv N1 N2 prs) Sp (RP N1 N2 R prs) w u (i+1) r hs (A.put o.dst v) F):Steps P l (fv N1 N2 prs) Sp (RP N1 N2 R prs) w u i (o::r) (.c v::hs) A F:=
 QJ b (λL x d hs k=>h.go d hs k) t
def qv (j:Nat)(f:dn->Value)(b:(!(fv N1 N2 prs).contains i&&(fv N1 N2 prs).contains j&&gF l 20 i j)=true)(h:tS l N1 N2 Sp R prs w u i λ_ _ x=>gD P (GV (f (u j)) x) ((execOp A.eval o).run P x))(t:Steps P l (fv N1 N2 prs) Sp (RP N1 N2 R prs) w u (i+1) r hs (A.put o.dst (f (u j))) F):Steps P l (fv N1 N2 prs) Sp (RP N1 N2 R prs) w u i (o::r) (.d j f::hs) A F:=
 aaJ b (λL x d hs k=>h.go d hs k) t
def Du {K d:Value->World->Prop}{r:Result Next}(c:∀v y,K v y->d v y)(h:gD P K r):gD P d r:=by
 unfold gD at*;split at h
 ·exact c _ _ h
 ·exact c _ _ h
 ·exact Calls.mono h λe y b=>by
   split at b
   ·exact c _ _ b
   exact b.elim
 exact h.elim
def Jk:jT i L i=true:=by simp[jT]
def pn (H:eF n N1 N2 Sp R prs)(c:(decide (N1<n)&&prs.all λt=>t.1 !=N1)=true)(h:tS l N1 N2 Sp R prs w u N1 λ_ p x=>gD P (GW v (⟨⟩:Tg Sp x (λy=>R true p y) DT)) ((execOp A.eval o).run P x))(t:Steps P l (fv N1 N2 prs) Sp (RP N1 N2 R prs) w u (N1+1) r hs (A.put o.dst v) F):Steps P l (fv N1 N2 prs) Sp (RP N1 N2 R prs) w u N1 (o::r) (.w v::hs) A F:=
 Et (by simp[fv]) (λL x d hs k=>Du (λq y b=>⟨b.1,b.2.1,by rw[Jk,mC H.ne];exact b.2.2,λj t e f=>by
  simp only[fY,kr]at c;have m:t.1≠N1:=by simpa using nA.1 c.2 t (dc e)
  rw[mC λe=>m e.symm]at f;exact (H.q1 c.1).at j t e m _ _ _ (k.2 j t e f) b.2.1⟩) (h.go d hs k)) t
def PD (H:eF n N1 N2 Sp R prs)(c:(decide (N2<n)&&prs.all λt=>t.1 !=N2)=true)(h:tS l N1 N2 Sp R prs w u N2 λp _ x=>gD P (GW v (⟨⟩:Tg Sp x (λy=>R p true y) DT)) ((execOp A.eval o).run P x))(t:Steps P l (fv N1 N2 prs) Sp (RP N1 N2 R prs) w u (N2+1) r hs (A.put o.dst v) F):Steps P l (fv N1 N2 prs) Sp (RP N1 N2 R prs) w u N2 (o::r) (.w v::hs) A F:=
 Et (by simp[fv]) (λL x d hs k=>Du (λq y b=>⟨b.1,b.2.1,by rw[Jk,mC λe=>H.ne e.symm];exact b.2.2,λj t e f=>by
  simp only[fY,kr]at c;have m:t.1≠N2:=by simpa using nA.1 c.2 t (dc e)
  rw[mC λe=>m e.symm]at f;exact (H.q2 c.1).at j t e m _ _ _ (k.2 j t e f) b.2.1⟩) (h.go d hs k)) t
def jy (H:eF n N1 N2 Sp R prs)(f:dn->Value)(z:Nat){Q:dn->World->Prop}(m:prs[z]?=some (i,Q))(s:(i !=N1&&i !=N2)=true)
 (h:tS l N1 N2 Sp R prs w u i λ_ _ x=>gD P (GP f (⟨⟩:Tg D6 x OZ Q)) ((execOp A.eval o).run P x)) (t:Steps P l (fv N1 N2 prs) Sp (RP N1 N2 R prs) w u (i+1) r hs (A.put o.dst (f (u i))) F):Steps P l (fv N1 N2 prs) Sp (RP N1 N2 R prs) w u i (o::r) (.p f::hs) A F:=
 Jt (Iw m) (λL x d hs k=>Du (λv' y hy=>by
  obtain ⟨q,U,b,h3⟩:=hy;simp only[fY,dY]at s;refine ⟨q,U,H.sn _ _ b,by rw[mC s.1,mC s.2];exact H.rn _ _ _ _ k.1 b,λj t e I=>?_⟩;by_cases c:t.1=i
  ·have C:(prs.map (·.1))[j]?=some i:=(by simp[e,c]);have J:(prs.map (·.1))[z]?=some i:=(by simp[m]);obtain rfl:j=z:=(List.getElem?_inj (mD.1 C).1 H.nodup).1 (C.trans J.symm);rw[m]at e;obtain rfl:=aH e;show Q (og i q u i) y;unfold og;rw[av rfl];exact h3
  rw[mC λe=>c e.symm]at I;unfold og;rw[au c];exact H.qn.at j t e (by have:=H.lt e;omega) _ _ _ (k.2 j t e I) b) (h.go d hs k)) t
def Av (H:eF n N1 N2 Sp R prs)(f:dn->Value)(m:Nat){Q:dn->World->Prop}(c:prs[m]?=some (N1,Q))(hn:N1<n)
 (h:tS l N1 N2 Sp R prs w u N1 λ_ I x=>gD P (GQ f (⟨⟩:Tg Sp x (λy=>R true I y) Q)) ((execOp A.eval o).run P x)) (t:Steps P l (fv N1 N2 prs) Sp (RP N1 N2 R prs) w u (N1+1) r hs (A.put o.dst (f (u N1))) F):Steps P l (fv N1 N2 prs) Sp (RP N1 N2 R prs) w u N1 (o::r) (.p f::hs) A F:=
 Jt (Iw c) (λL x d hs k=>Du (λv' y hy=>by
  obtain ⟨q,U,z,h3,h4⟩:=hy;refine ⟨q,U,z,by rw[Jk,mC H.ne];exact h3,λj t e C=>?_⟩;by_cases b:t.1=N1
  ·have s:(prs.map (·.1))[j]?=some N1:=(by simp[e,b]);have J:(prs.map (·.1))[m]?=some N1:=(by simp[c]);obtain rfl:j=m:=(List.getElem?_inj (mD.1 s).1 H.nodup).1 (s.trans J.symm);rw[c]at e;obtain rfl:=aH e;show Q (og N1 q u N1) y;unfold og;rw[av rfl];exact h4
  rw[mC λe=>b e.symm]at C;unfold og;rw[au b];exact (H.q1 hn).at j t e b _ _ _ (k.2 j t e C) z) (h.go d hs k)) t
def pz (h:F A):Steps P l (fv N1 N2 prs) Sp (RP N1 N2 R prs) w u i [] [] A F:=h
end
def aA:(∀(a:Act) (d:Nat) (v:Value),a.put (some d) v=⟨a.tmps.setIfInBounds d v,a.defers⟩)/\(∀(a:Act) (v:Value),a.put none v=a)/\(∀(l:Lv) (d:Nat) (v:Value),l.toArray.setIfInBounds d v=(l.set d v).toArray)/\(∀(l:Lv) (d:Nat) (u v:Value),(u::l).set (d+1) v=u::l.set d v)/\(∀(l:Lv) (u v:Value),(u::l).set 0 v=v::l)/\(∀(d:Nat) (v:Value),([]:Lv).set d v=[])/\(∀(l:List Oper) (d:Nat) (u:Oper),(u::l).drop (d+1)=l.drop d)/\∀(l:List Oper),l.drop 0=l:=
 ⟨λ_ _ _=>rfl,λ_ _=>rfl,λ_ _ _=>pu,λ_ _ _ _=>rfl,λ_ _ _=>rfl,λ_ _=>rfl,λ_ _ _=>rfl,λ_=>rfl⟩
end
section
open Go.RowKit
variable{P:Program}{Q:Exit->Act->World->Prop}{N1 N2 M:Nat}{Sp:World->World->Prop}{R:Bool->Bool->Option Value->World->Prop}
structure iq(B:Nat)(G:Ln)(w w':World):Prop where
 os:w'.os=w.os
 tape:w'.tape=w.tape
 output:w'.output=w.output
 size:w.heap.size<=w'.heap.size
 block:∀i,i<B->i<w.heap.size->i∉G->w'.heap[i]?=w.heap[i]?
def iq.trans {b c}(h:iq B G a b)(k:iq B G b c):iq B G a c:=
 ⟨k.os.trans h.os,k.tape.trans h.tape,k.output.trans h.output,bJ h.size k.size,λi d e f=>(k.block i d (fW e h.size) f).trans (h.block i d e f)⟩
def iq.of {H}{b}(h:aC a b H)(hs:∀i∈H,i∈G\/B<=i):iq B G a b:=
 ⟨h.os,h.tape,h.output,h.size,λi f c d=>h.block i c λe=>(hs i e).elim d pm⟩
def iq.new {b}(h:a.grownBy b none):iq B G a b:=iq.of (H:=[]) (aC.new h []) pu
def iq.only {b}(h:iq a.heap.size G a b):aC a b G:=⟨h.os,h.tape,h.output,h.size,λi c d=>h.block i c c d⟩
end
end Go.Proofs.YtmomfbkpniblgaaGreatDoor
