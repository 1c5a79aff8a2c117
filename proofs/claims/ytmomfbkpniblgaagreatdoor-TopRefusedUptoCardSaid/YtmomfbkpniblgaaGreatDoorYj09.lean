/- A part of this claim's proof. -/
import Derived.Test.YtmomfbkpniblgaaGreatDoorYj07
set_option linter.all false
set_option maxHeartbeats 4000000
set_option maxRecDepth 20000
namespace Go.Proofs.YtmomfbkpniblgaaGreatDoor
open Go.Proofs.Tryz
section
open Go.RowKit Go.Maps
def lV(w:World)(a b:Nat)(d:Int)(n:Nat)(m:Nat->Option Int):Prop:=
 ∃D,w.heap[a]?=some (.cells #[.int .i64 d, .map (some b)] 184 (0,0))/\FU w b n D/\jv D m/\∀x c,m x=some c->0<=c/\c<=4
def Bk(w:World)(base:Nat)(a:Nat)(c:Int)(n:Nat)(m:Nat->Option Int):Prop:=∃b,base<=a/\base<=b/\lV w a b c n m
def Fv(a b:Nat)(w c:World):Prop:=∃W,w.grownBy W (some a)/\W.grownBy c (some b)
def lV.kept {w w'}{a b:Nat}{c:Int}{n:Nat}{m:Nat->Option Int}{r:Option Nat}(h:lV w a b c n m)(g:w.grownBy w' r)(d:some a≠r)(e:some b≠r):lV w' a b c n m:=by obtain ⟨D,i,hm,j,f⟩:=h;exact ⟨D,rv g i d,hm.kept g e,j,f⟩
def later(m:Nat->Option Int)(more:Int):Nat->Option Int:=λx=>((m x).map (·+more)).filter λc=>decide (c<5)
def taken(m:Nat->Option Int)(x:Nat)(a:Bool):Int×(Nat->Option Int):=
 match m x with
 |some c=>if c=0then(15,m)else(0,uO m x (some (c-1)))
 |none=>if a=true then(9,m)else(0,uO m x (some 4))
def XR {D:Dm}{d:Lit->Dm->Bool}(g:Good D):Good (Lib.deleteFuncD d D):=by obtain ⟨e,rfl,a,b⟩:=g;exact ⟨_,rfl,a.filter _,λp c=>b p (xn.1 c).1⟩
def Aj {m:Nat->Option Int}{more:Int}(h:∀x c,m x=some c->0<=c/\c<=4)(h0:0<=more):∀x c,later m more x=some c->0<=c/\c<=4:=by
 intro x c a;unfold later at a;cases hm:m x with
 |none=>simp[hm]at a
 |some d=>have:=h x d hm;simp[hm,yU]at a;omega
def Rd {m:Nat->Option Int}{x:Nat}{v:Int}(h:∀x c,m x=some c->0<=c/\c<=4)(b:0<=v/\v<=4):∀y c,uO m x (some v) y=some c->0<=c/\c<=4:=by
 intro y c a;unfold uO at a;split at a
 ·injection a with e;omega
 exact h y c a
def Bf (w:World):(zeroValue 3).run prog w= .ok (.int .i64 0) w:=qr
def Wo w (a b:Nat)(k t:Int)(n:Nat)(m:Nat->Option Int)(x:Nat)(hx:x<4294967296)(a2:Bool)(hB:lV w a b k n m)(hn:n<1000000000)(h0:0<=k)(h1:k<=t)(h2:t<=1099511627776)
 (hf:later m (min (t-k) 5) x=none->∀D,Good D->jv D (later m (min (t-k) 5))->(Maps.size D=16↔a2=true)):
 Calls prog 176 #[.pointer (some ⟨a,0,none⟩), .int .u32 x, .int .i64 t] w λe w'=>e= .returned (.int .i64 (taken (later m (min (t-k) 5)) x a2).1)/\
  lV w' a b t (n+1) (taken (later m (min (t-k) 5)) x a2).2/\Fv a b w w':=by
 obtain ⟨D,u,hm,hr,I⟩:=hB;have c0:=cK u 0;have c1:=cK u 1;have f0:=nV u 0;have o:b≠a:=by intro e;subst e;obtain ⟨es,e7,hb,_⟩:=hm;rw[hb]at u;cases u
 have d8:=hm.setCell (a:=⟨a,0,none⟩) o (.int .i64 t);have a5:=jQ u 0 (.int .i64 t);have HF:=Hq hf;clear hf;have a6:∃more,more=min (t-k) 5/\0<=more/\more<=5:=⟨_,rfl,pm,pm⟩;obtain ⟨more,a6,m0,m5⟩:=a6;rw[<-a6]at HF⊢;have s1:IntKind.i64.wrap (t-k)=t-k:=dG _ pm;have g1:¬t<k:=pm
 have g2:¬1099511627776<t:=pm
 have d0:(5<t-k/\more=5)\/(t-k<=5/\t-k=more):=pm
 clear a6;have e':True:=trivial;rcases d0 with⟨q1,q2⟩|⟨q1,q2⟩;all_goals
  go_enter func176,ntmps176;go_wp2_with (first
   |(at_range;refine wpList_range_own _ rfl _ 182 rfl 33 3 kZ underlying182 _ b n _ rfl d8 ?_;intro w0 b2 b8 e0)
   |fail)
 all_goals
  have e5:=cK a5 1;have e1:(w.setCell ⟨a,0,none⟩ (.int .i64 t)).heap.size=w.heap.size:=pu
  rw[e1]at b2 e0;have a3:w.grownBy (w.setCell ⟨a,0,none⟩ (.int .i64 t)) (some a):=aw (ak _ _) _ _;have f2:a<w.heap.size:=(ot.1 u).1;generalize w.setCell ⟨a,0,none⟩ (.int .i64 t)=W at*;have b6:a<W.heap.size:=(ot.1 a5).1
  (try go_frame)
  go_loopw [8] (λ_ wr=>∃(left:Lit->Bool) (b5:Nat) (f:Dm),wr.ranges prog 33 (plainElem prog 3) b w.heap.size n f left b5/\jv f (added m more left)/\W.grownBy wr (some b))
   (λ_ wr=>wr.rangeLeft b w.heap.size)
  case atStart=>exact ⟨_,_,D,b2,U0 hr more,b8.but _⟩
  case round=>
   obtain ⟨left,b5,f,a8,a7,J⟩:=hrel;go_wp2_with (first
    |(at_next;refine wpList_next_ranges_ii _ rfl _ rfl 33 3 .u32 .i64 kZ underlying33 underlying3 b w.heap.size n _ _ _ rfl a8 ?_ ?_)
    |fail)
   ·intro _ d5;have R:=a8.owns;have c6:=T8 (T7 a7 d5) (ND R underlying33 underlying3) nY J8;have fH:jv (Lib.deleteFuncD nY f) (later m more):=c6;have C:wr.heap[a]?=_:=(J.block a b6 (by simpa using λe=>o e.symm)).trans a5;have e6:=cK C 1;have a9:a<wr.heap.size:=(ot.1 C).1;clear c6 a7 b2 b8 a8;have P:keyOf prog 33 (.int .u32 x)=some (.int .u32 x):=keyOf_int_mk underlying33 (wf_u32 pm);have d3:Good (Lib.deleteFuncD nY f):=by exact XR (ND R underlying33 underlying3)
    cases hx2:later m more x with
    |none=>
     have a0:has (Lib.deleteFuncD nY f) (.int .u32 x)=false:=by have:=(fH x hx).1;rw[hx2]at this;exact this
     have c8:=HF.out hx2 _ d3 fH;cases a2 with
     |true=>
      have e2:((Maps.size (Lib.deleteFuncD nY f):Nat):Int)=16:=(by have:=c8.2 rfl;omega);go_wp2_with (first
       |(go_at_call 234;refine (DO _ b n f R).mono ?_;rintro e q ⟨rfl,h,l⟩;have i:q.heap[a]?=_:=(l.block a a9 (by simpa using λe=>o e.symm)).trans C;have a':=cK i 1;have d6:=h.len underlying182 3;have v:=J.andThen l (λj g=>by cases g;exact Or.inr rfl))
       |(at_lookup;refine wpList_lookup_own_ok_int _ rfl _ _ 182 rfl 33 3 .i64 kZ underlying182 underlying3 (Bf _) b n _ rfl h _ _ rfl P ?_;intro U s b4;rw[a0])
       |fail)
      go_ret;refine ⟨by rw[taken,hx2];rfl,?_,?_⟩
      ·rw[taken,hx2];exact ⟨_,i,h.mono pm,fH,Aj I m0⟩
      exact ⟨_,a3,v⟩
     |false=>
      have e2:¬((Maps.size (Lib.deleteFuncD nY f):Nat):Int)=16:=by intro e;have:=c8.1 pm;cases this
      go_wp2_with (first
       |(go_at_call 234;refine (DO _ b n f R).mono ?_;rintro e q ⟨rfl,h,l⟩;have i:q.heap[a]?=_:=(l.block a a9 (by simpa using λe=>o e.symm)).trans C;have a':=cK i 1;have d6:=h.len underlying182 3;have v:=J.andThen l (λj g=>by cases g;exact Or.inr rfl))
       |(at_lookup;refine wpList_lookup_own_ok_int _ rfl _ _ 182 rfl 33 3 .i64 kZ underlying182 underlying3 (Bf _) b n _ rfl h _ _ rfl P ?_;intro U s b4;rw[a0])
       |(at_mapUpdate;refine wpList_mapUpdate_in _ rfl _ _ _ 182 rfl 33 3 kZ underlying182 (plainElem prog 3) b n _ rfl h (by unfold maxLen;omega) _ _ _ rfl rfl P (nm 4) [] (plainElem_int underlying3 ut) ?_;intro w3 b1 a1;go_frame)
       |fail)
      go_ret;have cC:w3.heap[a]?=_:=(a1.grown.block a (ot.1 i).1 (by simpa using λe=>o e.symm)).trans i;have b0:=v.andThen a1.grown (λj g=>by cases g;exact Or.inr rfl);refine ⟨by rw[taken,hx2];rfl,?_,?_⟩
      ·rw[taken,hx2];exact ⟨_,cC,b1,IZ fH h.isMap hx 4,Rd (Aj I m0) pm⟩
      exact ⟨_,a3,b0⟩
    |some c=>
     have a0:has (Lib.deleteFuncD nY f) (.int .u32 x)=true:=by have:=(fH x hx).1;rw[hx2]at this;exact this
     have r:∀z,(Lib.deleteFuncD nY f).atKey (.int .u32 x) z= .lit (.int .i64 c):=(fH x hx).2 c hx2;have d1:=Aj I m0 x c hx2;by_cases a4:c=0
     ·go_wp2_with (first
       |(go_at_call 234;refine (DO _ b n f R).mono ?_;rintro e q ⟨rfl,h,l⟩;have i:q.heap[a]?=_:=(l.block a a9 (by simpa using λe=>o e.symm)).trans C;have a':=cK i 1;have v:=J.andThen l (λj g=>by cases g;exact Or.inr rfl))
       |(at_lookup;refine wpList_lookup_own_ok_int _ rfl _ _ 182 rfl 33 3 .i64 kZ underlying182 underlying3 (Bf _) b n _ rfl h _ _ rfl P ?_;intro U s b4;rw[a0];(obtain rfl:c=U:=by rw[r]at s;injection s with e;injection e with _ e))
       |fail)
      go_ret;refine ⟨by rw[taken,hx2];simp[a4],?_,?_⟩
      ·rw[taken,hx2];simp only[a4,sf];exact ⟨_,i,h.mono pm,fH,Aj I m0⟩
      exact ⟨_,a3,v⟩
     have s3:IntKind.i64.wrap (c-1)=c-1:=dG _ pm;go_wp2_with (first
      |(go_at_call 234;refine (DO _ b n f R).mono ?_;rintro e q ⟨rfl,h,l⟩;have i:q.heap[a]?=_:=(l.block a a9 (by simpa using λe=>o e.symm)).trans C;have a':=cK i 1;have v:=J.andThen l (λj g=>by cases g;exact Or.inr rfl))
      |(at_lookup;refine wpList_lookup_own_ok_int _ rfl _ _ 182 rfl 33 3 .i64 kZ underlying182 underlying3 (Bf _) b n _ rfl h _ _ rfl P ?_;intro U s b4;rw[a0];(obtain rfl:c=U:=by rw[r]at s;injection s with e;injection e with _ e))
      |(at_mapUpdate;refine wpList_mapUpdate_in _ rfl _ _ _ 182 rfl 33 3 kZ underlying182 (plainElem prog 3) b n _ rfl h (by unfold maxLen;omega) _ _ _ rfl rfl P (nm (c-1)) [] (plainElem_int underlying3 (wf_i64 pm)) ?_;intro w3 b1 a1;go_frame)
      |fail)
     go_ret;have cC:w3.heap[a]?=_:=(a1.grown.block a (ot.1 i).1 (by simpa using λe=>o e.symm)).trans i;have b0:=v.andThen a1.grown (λj g=>by cases g;exact Or.inr rfl);refine ⟨by rw[taken,hx2];simp[a4],?_,?_⟩
     ·rw[taken,hx2];simp only[a4,oE];exact ⟨_,cC,b1,IZ fH h.isMap hx (c-1),Rd (Aj I m0) pm⟩
     exact ⟨_,a3,b0⟩
   intro y c w1 c' c9 f3 d7 r b3 e9 d2 f1 e8;have b9:=J.andThen d2 (λj g=>by cases g;exact Or.inl pm);obtain ⟨z,rfl,hz⟩:∃z:Nat,y=(z:Int)/\z<4294967296:=by have:=bounds_u32 c9;exact ⟨y.toNat,pm,pm⟩
   have c4:left (ky z)=true:=d7;have c5:m z=some c:=by
    have r1:=a7 z hz;have r2:has f (ky z)=true:=has_true_of_atKey r;rw[r2]at r1;unfold added at r1;cases hm0:m z with
    |none=>simp[hm0]at r1
    |some d=>simp only[hm0,qP,c4,sf]at r1;have p:=r1.2 d rfl .nil;have r4:=r .nil;unfold ky at p;rw[r4]at p;unfold nm at p;injection p with p;injection p with _ p;rw[p]
   have d1:=I z c c5;have d4:has f (.int .u32 z)=true:=has_true_of_atKey r;have b':=keyOf_int_mk underlying33 c9;have i:w1.cell? ⟨a,1,none⟩=some (.map (some b)):=by have e:=b9.block a b6 (by simpa using λe=>o e.symm);rw[a5]at e;exact cK e 1
   have s2:IntKind.i64.wrap (c+more)=c+more:=dG _ pm;have d':=U1 a7 b3.owns.isMap hz c4 c5;have e4:(Lit.int .i64 (c+more)).wf=true:=wf_i64 pm;have d9:n<maxLen:=by unfold maxLen;omega
   go_wp2_with (first
    |(at_lookup;refine wpList_lookup_own_int _ rfl _ _ 182 rfl 33 3 .i64 kZ underlying182 underlying3 (Bf _) b n _ rfl b3.owns _ _ rfl b' ?_;intro c2 b7 f4;(obtain rfl:c=c2:=by rw[r]at b7;injection b7 with e;injection e with _ e))
    |(at_mapUpdate;refine acE rfl _ _ _ 182 rfl 33 3 kZ underlying182 (plainElem prog 3) b w.heap.size n _ _ _ rfl b3 d9 _ _ _ rfl rfl b' d4 (nm (c+more)) [] (by refine (iQ (plainElem prog 3) ?_).trans (plainElem_int underlying3 e4);first|rfl|(rw[q2];rfl)) ?_;intro q c7 e3;go_frame)
    |fail)
   go_roundw
   case rel=>exact ⟨_,c',_,c7,d',b9.andThen e3.grown (λj g=>by cases g;exact Or.inr rfl)⟩
   case measure=>rw[c7.left_eq,a8.left_eq];omega
end
end Go.Proofs.YtmomfbkpniblgaaGreatDoor
