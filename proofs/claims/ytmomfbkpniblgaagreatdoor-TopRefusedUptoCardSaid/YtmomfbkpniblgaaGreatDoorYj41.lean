/- A part of this claim's proof. -/
import Derived.BigRegion
import Derived.Test.YtmomfbkpniblgaaGreatDoorYj40
import Derived.Test.YtmomfbkpniblgaaGreatDoorYj37
set_option linter.all false
set_option maxHeartbeats 8000000
namespace Go.Proofs.YtmomfbkpniblgaaGreatDoor
open Go.Proofs.Tryz
variable {i:Nat}{w:World}
section
open Go.RowKit Top
def TJ {l:Li Bg Bu}(h:Empty l):l.mP=l:=by
 unfold Li.mP;rw[zK,FY _ _ (λx a=>(h x a).1)];have e:l.nodes.map vO=l.nodes:=by
  conv=>rhs;rw[<-List.map_id l.nodes]
  refine By λx a=>?_;obtain ⟨c,b⟩:=h x a;obtain ⟨⟨d,g⟩,f⟩:=x;unfold vO;simp only[]at c b;simp[b];cases d
  simp_all
 rw[e]
def Rx:Ac:=⟨0,0,0,0,0,0,[]⟩
def RZ (C:Cr Bg Hd Bu)(l:Li Bg Bu):l.act C Rx=(l,some 1):=rfl
def WR (C:Cr Bg Hd Bu){l:Li Bg Bu}(h:Empty l):l.fF C Rx=l:=by unfold Li.fF;rw[RZ];exact TJ h
def Fx(k a:Int):Ac:=⟨k,a,0,0,0,0,[]⟩
def RE(x:World)(A:LA)(K:Nat)(l:Li Bg Bu)(a:Ac)(e:Ending)(y:World):Prop:=
 (∃c:Int,e= .returned (.int .i64 c)/\∀m,(l.act C0 a).2=some m->c=(m:Int))/\∃b,dx x A y b (l.fF C0 a)/\si y b (K+8) (l.fF C0 a)
def Un x (A:LA)(l:Li Bg Bu)(K:Nat)(h:si x A K l)(b:K+8<=100000000)(k a:Int)(c:(Lit.int .i64 a).wf=true):
 Calls prog 13 #[ptr A.lk, .agg #[.int .i64 k, .int .i64 a, .int .i64 0, .int .i64 0, .int .u32 0, .int .u32 0, .string ⟨#[]⟩]] x (RE x A K l (Fx k a)):=
 LB C0 Fh x A l K h b (Fx k a) c (by show(0:Nat)<_;omega) (by show(0:Nat)<_;omega)
def RI(x:World)(a:af)(n:Nat)(f:Nat->Int)(e:Ending)(y:World):Prop:=
 (sj a n f->∃A,e= .returned (ptr A.lk)/\si y A 9 (jm a n f n)/\x.grownBy y none/\∀b∈A.fp,x.heap.size<=b)/\
 (¬sj a n f->e= .returned (.pointer none)/\x.grownBy y none)
def Wr x (a:Option Addr)(n C:Nat)(f:Nat->Int)(hf:qW .i64 x a n f)(d:af):
 Calls prog 10 #[.slice a n C,S d] x (RI x d n f):=by
 have t:=LX x a n C f hf d;unfold S at*;go_enter func10,ntmps10;go_wp2_with fail;refine t.mono ?_;rintro e y ⟨q,r⟩;clear t;by_cases k:sj d n f
 ·obtain ⟨A,rfl,P,o,I⟩:=q k;have j:=ZK k P;have s:Calls prog 13 #[ptr A.lk, .agg #[.int .i64 0, .int .i64 0, .int .i64 0, .int .i64 0, .int .u32 0, .int .u32 0, .string ⟨#[]⟩]] y (λe z=>e= .returned (.int .i64 1)/\∃g,dx y A z g (jm d n f n)/\si z g 9 (jm d n f n)):=by refine (Un y A _ 1 j pm 0 0 ut).mono ?_;rintro e z ⟨⟨c,rfl,m⟩,g,l,J⟩;have e0:(jm d n f n).fF C0 (Fx 0 0)=jm d n f n:=WR C0 j.em;rw[e0]at l J;exact ⟨by rw[m 1 rfl];rfl,g,l,J⟩
  have u:=Hq I;have v:=Hq o;have U:=Hq k;clear q r P j o I k;unfold ptr at*;go_wp2_with fail;refine s.mono ?_;rintro e z ⟨rfl,g,l,j⟩;have p:=Hq l;have R:=Hq j;clear l j s;go_wp2;go_ret;refine ⟨λ_=>⟨g,?_,R.out,sV v.out p.out.only u.out,λb hb=>?_⟩,λh=>absurd U.out h⟩
  ·rw[p.out.e1];rfl
  rcases p.out.fp b hb with e|e
  ·exact u.out b e
  exact bJ v.out.size e
 obtain ⟨c,m,rfl,o⟩:=r k;have a0:(c !=0)=true:=by rw[dY];exact m
 clear q r m;go_wp2;go_ret;exact ⟨λh=>absurd h k,λ_=>⟨rfl,o⟩⟩
def Ws x (a:Option Addr)(n g:Nat)(f:Nat->Int)(m:qW .i64 x a n f)(b:af)(k:¬sj b n f):
 Calls prog 11 #[.slice a n g,S b] x (λe y=>e= .returned (.bool true)/\x.grownBy y none):=by
 have d:=LX x a n g f m b;unfold S at*;go_enter func11,ntmps11;go_wp2_with fail;refine d.mono ?_;rintro e y ⟨l,h⟩;clear d;obtain ⟨c,j,rfl,o⟩:=h k;have p:(c !=0)=true:=by rw[dY];exact j
 clear l h j k;go_wp2;go_ret;exact ⟨rfl,o⟩
def Kr:List Lk:=[.int .i64, .int .i64, .int .i64, .int .i64, .int .u32, .int .u32, .str]
structure Rz(v:Ac):Prop where
 kind:(Lit.int .i64 v.kind).wf=true
 a:(Lit.int .i64 v.a).wf=true
 b:(Lit.int .i64 v.b).wf=true
 c:(Lit.int .i64 v.c).wf=true
 src:v.src<4294967296
 dst:v.dst<4294967296
 text:v.text.length<=maxLen
def sC(v:Ac):Lv:=[.int .i64 v.kind, .int .i64 v.a, .int .i64 v.b, .int .i64 v.c, .int .u32 v.src, .int .u32 v.dst,S v.text]
structure uU(w:World)(a:Option Addr)(i:Nat)(v:Ac):Prop where
 ok:Rz v
 at_:∃x,a=some x/\x.block<w.heap.size/\∀(j:Nat) (u:Value),(sC v)[j]?=some u->w.cell? (x.add (i*7+j))=some u
def Kw (x:Addr)(n:Nat):(x.add n).block=x.block:=by unfold Addr.add;split<;>rfl
def Sa {a:Option Addr}{o g:Nat}(h:IsRecs Kr w a o g):(o<=g/\g<=maxLen)/\∀i,i<o->∃v,uU w a i v:=by
 rcases h with⟨rfl,rfl,rfl⟩|⟨x,rfl,U,h2,f⟩
 ·exact ⟨⟨bm _,fE _⟩,λi e=>absurd e (xk _)⟩
 refine ⟨⟨U,h2⟩,λi e=>?_⟩;obtain ⟨_,l,k,rfl,w0⟩:=f i e 0 _ rfl;obtain ⟨_,p,a,rfl,w1⟩:=f i e 1 _ rfl;obtain ⟨_,r,b,rfl,w2⟩:=f i e 2 _ rfl;obtain ⟨_,y,c,rfl,w3⟩:=f i e 3 _ rfl;obtain ⟨_,z,m,rfl,J⟩:=f i e 4 _ rfl;obtain ⟨_,C,n,rfl,P⟩:=f i e 5 _ rfl;obtain ⟨_,I,s,rfl,R⟩:=f i e 6 _ rfl;have hl:Kr.length=7:=rfl;rw[hl]at l p r y z C I;obtain ⟨t,rfl,ht⟩:=ZR s;rw[<-ht]at R;have m4:0<=m/\m<=4294967295:=by simp only[Lit.wf,fY,kr]at J;exact J
 have m5:0<=n/\n<=4294967295:=by simp only[Lit.wf,fY,kr]at P;exact P
 obtain ⟨m,rfl⟩:∃q:Nat,m=(q:Int):=⟨m.toNat,pm⟩;obtain ⟨n,rfl⟩:∃q:Nat,n=(q:Int):=⟨n.toNat,pm⟩;refine ⟨⟨k,a,b,c,m,n,t⟩,⟨w0,w1,w2,w3,by show m<_;omega,by show n<_;omega,R⟩,x,rfl,?_,?_⟩
 ·have:=rS w _ l;rwa[Kw]at this
 intro j u d
 match j,d with
 |0,d=>simp[sC]at d;rw[<-d];exact l
 |1,d=>simp[sC]at d;rw[<-d];exact p
 |2,d=>simp[sC]at d;rw[<-d];exact r
 |3,d=>simp[sC]at d;rw[<-d];exact y
 |4,d=>simp[sC]at d;rw[<-d];exact z
 |5,d=>simp[sC]at d;rw[<-d];exact C
 |6,d=>simp[sC]at d;rw[<-d];exact I
 |n+7,d=>simp[sC]at d
def uU.later {w'}{a:Option Addr}{v:Ac}{B:Nat}(h:uU w a i v)(b:Below w.heap.size w w'):uU w' a i v:=by obtain ⟨f,x,g,c,d⟩:=h;refine ⟨f,x,g,fW c b.size,λj u e=>?_⟩;rw[b.cell (by rw[Kw];exact c)];exact d j u e
def uU.TC {a:Option Addr}{v:Ac}(h:uU w a i v):∃x,a=some x/\x.block<w.heap.size/\
 w.cell? (x.add (i*7))=some (.int .i64 v.kind)/\w.cell? ⟨(x.add (i*7)).block,(x.add (i*7)).off+1,none⟩=some (.int .i64 v.a)/\w.cell? ⟨(x.add (i*7)).block,(x.add (i*7)).off+2,none⟩=some (.int .i64 v.b)/\
 w.cell? ⟨(x.add (i*7)).block,(x.add (i*7)).off+3,none⟩=some (.int .i64 v.c)/\w.cell? ⟨(x.add (i*7)).block,(x.add (i*7)).off+4,none⟩=some (.int .u32 v.src)/\w.cell? ⟨(x.add (i*7)).block,(x.add (i*7)).off+5,none⟩=some (.int .u32 v.dst)/\
 w.cell? ⟨(x.add (i*7)).block,(x.add (i*7)).off+6,none⟩=some (S v.text):=by
 obtain ⟨_,x,g,f,d⟩:=h;have e:∀j,0<j->x.add (i*7+j)=⟨(x.add (i*7)).block,(x.add (i*7)).off+j,none⟩:=by
  intro j k;unfold Addr.add;rw[au pm];split
  ·simp
  simp[nC]
 refine ⟨x,g,f,d 0 _ rfl,?_,?_,?_,?_,?_,?_⟩
 ·rw[<-e 1 pm];exact d 1 _ rfl
 ·rw[<-e 2 pm];exact d 2 _ rfl
 ·rw[<-e 3 pm];exact d 3 _ rfl
 ·rw[<-e 4 pm];exact d 4 _ rfl
 ·rw[<-e 5 pm];exact d 5 _ rfl
 rw[<-e 6 pm];exact d 6 _ rfl
end
end Go.Proofs.YtmomfbkpniblgaaGreatDoor
