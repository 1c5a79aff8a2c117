/- A part of this claim's proof. -/
import Derived.BigRegion
import Derived.Test.YtmomfbkpniblgaaGreatDoorYj39
set_option linter.all false
set_option maxHeartbeats 16000000
set_option maxRecDepth 20000
namespace Go.Proofs.YtmomfbkpniblgaaGreatDoor
open Go.Proofs.Tryz
variable {i m n:Nat}{v:Value}{x y:World}
section
open Go.RowKit Top
def tq(a:af)(i k:Nat):di:=⟨cS (iV a k) eB,iV a (20+i+k),k+1,167772160+256*k⟩
def jq(a:af)(i:Nat):Nat->List di
 |0=>[]
 |m+1=>if m=i then jq a i m else jq a i m++[tq a i m]
def Au (a:af)(i:Nat):∀m,(jq a i m).length<=m
 |0=>bm _
 |m+1=>by
  rw[jq];have:=Au a i m;split
  ·omega
  rw[aK,tD];omega
def I9 (a:af)(i k:Nat)(b:k<=8):Fo (tq a i k):=
 ⟨ti _ _,tf _ _,by show k+1<_;omega,by show 167772160+256*k<_;omega,by show(167772160+256*k)*2^24%4294967296=0;omega⟩
def IL (b:af)(i:Nat):∀m,m<=8->∀a∈jq b i m,Fo a
 |0,_,a,h=>by cases h
 |m+1,hm,a,h=>by
  rw[jq]at h;split at h
  ·exact IL b i m pm a h
  rcases bG.1 h with e|e
  ·exact IL b i m pm a e
  rw[jG.1 e];exact I9 b i m pm
def DS(a:af)(n:Nat)(f:Nat->Int)(i:Nat):No Bg Bu:=⟨xT (i+1) (iV a i) (iV a (i+10)) (f i).toNat (jq a i n),[]⟩
def jm(a:af)(n:Nat)(f:Nat->Int)(m:Nat):Li Bg Bu:=⟨(List.range m).map (DS a n f),[]⟩
def ZN (a:af)(n:Nat)(f:Nat->Int)(m:Nat):({jm a n f m with nodes:=(jm a n f m).nodes++[DS a n f m]}:Li Bg Bu)=jm a n f (m+1):=by unfold jm;rw[BS,jW];rfl
def Ox(a:af)(n:Nat)(f:Nat->Int)(i:Nat):Prop:=(f i=1\/f i=2)/\xB (iV a i) (jq a i n)
def sj(a:af)(n:Nat)(f:Nat->Int):Prop:=a.length=32/\2<=n/\n<=3/\∀i,i<n->Ox a n f i
def RG(x:World)(a:af)(n:Nat)(f:Nat->Int)(e:Ending)(y:World):Prop:=
 (sj a n f->∃A,e= .returned (.tuple #[ptr A.lk, .int .i64 0])/\dm y A (jm a n f n)/\x.grownBy y none/\∀b∈A.fp,x.heap.size<=b)/\
 (¬sj a n f->∃c:Int,c≠0/\e= .returned (.tuple #[.pointer none, .int .i64 c])/\x.grownBy y none)
def YQ:(prog.info? 91).map (λi=>(i.zero,i.size,i.bytes))=some (some (.agg #[.string ⟨#[]⟩, .string ⟨#[]⟩, .int .u32 0, .slice none 0 0]),4,64):=qr
def YP:(prog.info? 66).map (λi=>(i.zero,i.size,i.bytes))=some (some (.pointer none),1,8):=qr
def pU.nil w:pU w (.slice none 0 0) []:=⟨nX _ _ _,λz a=>by cases a⟩
def X8 w v (a:List (di×Nat))(h:pU w v a)(z:di×Nat)(b:Nat)(C:ab w b 91 (mz z))(p:ab w z.2 88 [.int .u32 z.1.addr, .int .i64 24])(hl:a.length<=1000000):
 ∃c d f,(Builtin.append_ #[84,84] 84 #[v, .slice (some ⟨b,0,none⟩) 1 1]).run prog w= .ok (.slice c (a.length+1) d) f/\pU f (.slice c (a.length+1) d) (a++[z])/\w.grownBy f v.ownBlock/\((Value.slice c (a.length+1) d).ownBlock=v.ownBlock\/(Value.slice c (a.length+1) d).ownBlock=some w.heap.size):=by
 obtain ⟨i0,I,a0,a1,a2⟩:=mF YQ;obtain ⟨v',f,s,o,l,t,h5⟩:=wE w 84 84 91 i0 _ 4 64 underlying84 I a0 a1 a2 rfl pm v a.length (a.flatMap mz) h.row ⟨b,0,none⟩ 1 1 (mz z) rfl (λj u J=>by rw[qY,C.cell,ef];exact J) (by simp[mz,Value.oneCell',S]) pm (by unfold maxLen;omega) pm
 obtain ⟨c,d,R⟩:=gj o;subst R;have ne:∀k,cD w k=some 88->v.ownBlock≠some k:=λk P e=>by have q:=(h.row.kind k e).1;rw[P]at q;exact absurd (aH q) ut
 refine ⟨c,d,f,s,⟨?_,?_⟩,l,t⟩
 ·rw[aK,tD,qK];simpa using o
 intro y U;rcases bG.1 U with e|e
 ·have r:=h.path y e;exact r.kept l (λg=>ne _ r.kind g.symm)
 rw[jG.1 e];exact p.kept l (λg=>ne _ p.kind g.symm)
def X5 w v (n:Nat) xs (h:aZ w 66 1 v n xs)(e b:Nat)(p:ab w b 66 [ptr e])(J:n<=1000000):
 ∃a c d,(Builtin.append_ #[63,63] 63 #[v, .slice (some ⟨b,0,none⟩) 1 1]).run prog w= .ok (.slice a (n+1) c) d/\aZ d 66 1 (.slice a (n+1) c) (n+1) (xs++[ptr e])/\w.grownBy d v.ownBlock/\((Value.slice a (n+1) c).ownBlock=v.ownBlock\/(Value.slice a (n+1) c).ownBlock=some w.heap.size)/\aZ d 66 1 v n xs:=by
 obtain ⟨I,q,t,z,C⟩:=mF YP;obtain ⟨P,d,g,f,k,l,o⟩:=wE w 63 63 66 I _ 1 8 underlying63 q t z C rfl pm v n xs h ⟨b,0,none⟩ 1 1 [ptr e] rfl (λj u r=>by rw[qY,p.cell,ef];exact r) (by simp[Value.oneCell',ptr]) pm (by unfold maxLen;omega) pm
 obtain ⟨a,c,s⟩:=gj f;subst s;exact ⟨a,c,d,g,f,k,l,o⟩
def jf.Pb {a:NA}{n:No Bg Bu}(c:jf x a n){b:Nat}(d:cD x b=some 65):b∉a.fp:=λhm=>by
 simp only[NA.fp,bp,bG,vg]at hm;rcases hm with e|e|e
 ·have:=c.nd.kind;rw[<-e,d]at this;exact absurd (aH this) ut
 ·have:=(c.all.kind _ e).1;rw[d]at this;exact absurd (aH this) ut
 have e:=(c.de.kinds _ e).1;rw[d]at e;rcases e with(e|e|e|e|e|e|e)|(e|e|e|e|e)<;>first|exact absurd (aH e) ut|cases e
def jf.rows {n:NA}{u:No Bg Bu}(d:jf x n u){G}(g:aC x y G)(h:∀b∈G,cD x b=some 66):jf y n u:=by
 have q:∀b,pg (cD x b)->b∉G:=λb a hm=>a.As.1 (h b hm);have f:∀b∈n.fp,b∉G:=λb a=>q b (d.kinds b a).1;have c:=d.de;refine ⟨g.bu d.nd (f _ (by simp[NA.fp])),d.all.only g (λb a=>f _ (by simp[NA.fp,a])),⟨?_,c.len,?_,?_,c.apart⟩,d.apart⟩
 ·exact c.dv.only g (λb a=>f b (by simp[NA.fp,eA,a])) (λb a=>mr λt l=>by rw[h b a]at l;obtain rfl:=aH l;decide)
 ·exact c.row.only g (λb a hm=>by have e:=(c.row.kind b a).1;rw[h b hm]at e;exact absurd (aH e) ut)
 intro j P p k o;exact (c.pe j P p k o).only g (λb a=>f b (by simp only[NA.fp,eA,bp,bG];exact Or.inr (Or.inr (Or.inr (Am k a)))))
def dm.rows {A:LA}{l:Li Bg Bu}(h:dm x A l)(g:aC x y A.nodes.ownBlock.toList)(f:aZ y 66 1 A.nodes A.ns.length (A.ns.map λn=>ptr n.nd)):dm y A l:=by have c:∀b∈A.nodes.ownBlock.toList,cD x b=some 66:=λb a=>(h.row.kind b (by simpa using a)).1;have d:∀b∈A.fp,b∉A.nodes.ownBlock.toList:=λb a hm=>(h.kinds b a).1.As.1 (c b hm);exact ⟨g.bu h.lk (d _ (by simp[LA.fp])),h.len,f,h.air.only g (λb a=>d _ (by simp[LA.fp,a])),λi n u e j=>(h.no i n u e j).rows g c,h.apart,h.uM⟩
def dm.more {A:LA}{l:Li Bg Bu}(h:dm x A l){d:NA}{u:No Bg Bu}(J:aZ x 66 1 v (A.ns.length+1) ((A.ns.map λn=>ptr n.nd)++[ptr d.nd]))(P:jf x d u)(C:∀n∈A.ns,∀b∈d.fp,b∉n.fp)(z:A.air.ownBlock=none):
 dm (x.setCell ⟨A.lk,0,none⟩ v) {A with nodes:=v,ns:=A.ns++[d]} {l with nodes:=l.nodes++[u]}/\aC x (x.setCell ⟨A.lk,0,none⟩ v) [A.lk]:=by
 have g:=aw (ak x (some A.lk)) 0 v;have f:aC x (x.setCell ⟨A.lk,0,none⟩ v) [A.lk]:=(aC.grown g).mono pu;have I:∀b∈[A.lk],pg (cD x b):=λb a=>by rw[jG.1 a];exact Or.inl h.lk.kind
 have key:∀k (m:NA),(A.ns++[d])[k]?=some m->(A.ns[k]?=some m/\k<A.ns.length)\/(k=A.ns.length/\m=d):=λk m hm=>by
  rcases BL k A.ns.length with e|e|e
  ·rw[uW e]at hm;exact Or.inl ⟨hm,e⟩
  ·subst e;rw[qI (bm _),il]at hm;exact Or.inr ⟨rfl,by simpa using hm.symm⟩
  rw[eE (by rw[aK];simp;omega)]at hm;cases hm
 refine ⟨⟨h.lk.set 0 v,by rw[aK,aK,h.len];rfl,?_,?_,?_,?_,?_⟩,f⟩
 ·rw[aK,jW];exact aZ.only J f (λk o hm=>by have e:=(aZ.kind J k o).1;rw[jG.1 hm,h.lk.kind]at e;exact absurd (aH e) ut)
 ·exact h.air.only f (λk o=>by rw[z]at o;cases o)
 ·intro i n w p q;rcases key i n p with⟨c,s⟩|⟨c,rfl⟩
  ·rw[uW (by rw[<-h.len];exact s)]at q;have t:=h.no i n w c q;exact t.only f (λb a=>by rw[jG.1 a];exact t.Pb h.lk.kind) I
  subst c;simp only[Bw,h.len,Nat.lt_irrefl,oE,il]at q;obtain rfl:u=w:=by simpa using q
  exact P.only f (λb a=>by rw[jG.1 a];exact P.Pb h.lk.kind) I
 ·intro i j n m U p hm;rcases key i n p with⟨c,s⟩|⟨c,rfl⟩<;>rcases key j m hm with⟨r,b2⟩|⟨r,rfl⟩
  ·exact h.apart i j n m U c r
  ·exact λb a R=>C n (dc c) b R a
  ·exact C m (dc r)
  omega
 intro i n p b a;rw[z]at a;cases a
def ZT {wq x5}{A:LA}{l:Li Bg Bu}{a:NA}{u:No Bg Bu}(q:dm wq A l)(f:aC wq x5 A.nodes.ownBlock.toList)(t:aZ x5 66 1 A.nodes m (A.ns.map λn=>ptr n.nd))(r:A.ns.length=m)(w:aZ x5 66 1 v (m+1) ((A.ns.map λn=>ptr n.nd)++[ptr a.nd]))(C:jf x5 a u)(o:∀n∈A.ns,∀b∈a.fp,b∉n.fp)(k:A.air.ownBlock=none)(p:x.grownBy wq none)(d:∀b∈A.fp,x.heap.size<=b)(z:∀b∈A.nodes.ownBlock.toList,x.heap.size<=b)(s:∀b∈a.fp,x.heap.size<=b):
 dm (x5.setCell ⟨A.lk,0,none⟩ v) {A with nodes:=v,ns:=A.ns++[a]} {l with nodes:=l.nodes++[u]}/\x.grownBy (x5.setCell ⟨A.lk,0,none⟩ v) none/\∀b∈({A with nodes:=v,ns:=A.ns++[a]}:LA).fp,x.heap.size<=b:=by
 subst r;have j:=q.rows f t;obtain ⟨g,h⟩:=j.more w C o k;refine ⟨g,sV (sV p f z) h (λb c=>d b (by rw[jG.1 c];simp[LA.fp])),λb c=>?_⟩;simp only[LA.fp,bp,bG,qK]at c;rcases c with e|e|e|e
 ·exact d b (by rw[e];simp[LA.fp])
 ·exact d b (by simp only[LA.fp,bp,bG];exact Or.inr (Or.inl e))
 ·exact d b (by simp only[LA.fp,bp,bG];exact Or.inr (Or.inr e))
 exact s b (by simpa using e)
def Vk x (a:Option Addr)(n c:Nat)(b:af)(h:b.length≠32\/(b.length=32/\n<2)\/(b.length=32/\3<n)):
 Calls prog 24 #[.slice a n c,S b] x (λe y=>e= .returned (.tuple #[.pointer none, .int .i64 1])/\x.grownBy y none):=by
 unfold S;have d:((b.length:Int) !=32)=true\/(((b.length:Int) !=32)=false/\decide ((n:Int)<2)=true)\/(((b.length:Int) !=32)=false/\decide ((n:Int)<2)=false/\decide ((3:Int)<n)=true):=by
  rcases h with h|⟨h,f⟩|⟨h,f⟩
  ·exact Or.inl (by rw[dY];omega)
  ·exact Or.inr (Or.inl ⟨by rw[h];rfl,pp⟩)
  exact Or.inr (Or.inr ⟨by rw[h];rfl,pp,pp⟩)
 clear h;rcases d with q|⟨q,g⟩|⟨q,g,j⟩;all_goals
  go_enter func24,ntmps24;go_wp2;go_ret2;exact ⟨rfl,aT _ _ _⟩
def LX x (a:Option Addr)(n f2:Nat)(f:Nat->Int)(hf:qW .i64 x a n f)(c:af):
 Calls prog 24 #[.slice a n f2,S c] x (RG x c n f):=by
 by_cases a5:c.length≠32\/(c.length=32/\n<2)\/(c.length=32/\3<n)
 ·refine ax (Vk x a n f2 c a5) λy hg=>?_;refine ⟨λh=>?_,λ_=>⟨1,pm,rfl,hg⟩⟩;obtain ⟨P,h2,h3,_⟩:=h;rcases a5 with e|⟨_,e⟩|⟨_,e⟩<;>omega
 have hs:c.length=32:=by
  rcases Nat.decEq c.length 32with e|e
  ·exact absurd (Or.inl e) a5
  exact e
 have j7:2<=n:=by
  rcases eR n 2with e|e
  ·exact absurd (Or.inr (Or.inl ⟨hs,e⟩)) a5
  exact e
 have j8:n<=3:=by
  rcases eR 3 n with e|e
  ·exact absurd (Or.inr (Or.inr ⟨hs,e⟩)) a5
  exact e
 clear a5;have q1:((c.length:Int) !=32)=false:=by rw[hs];rfl
 have q2:decide ((n:Int)<2)=false:=pp
 have q3:decide ((3:Int)<n)=false:=pp
 have HS:=Hq hs;have HF:=Hq hf;obtain ⟨SB,c8⟩:=kq x.heap.size;obtain ⟨I,c6⟩:=kq ((x.alloc (.cells #[S c] 9)).heap.size);obtain ⟨x2,c3⟩:=kq ((x.alloc (.cells #[S c] 9)).alloc (.cells #[.slice none 0 0, .slice none 0 0] 65));have g1:x.grownBy (x.alloc (.cells #[S c] 9)) none:=aF (ak _ _) _;have g2:x.grownBy x2 none:=by rw[c3];exact aF g1 _
 have b':ab x2 SB 9 [S c]:=by have t:ab (x.alloc (.cells #[S c] 9)) x.heap.size 9 [S c]:=aO x _;rw[c3,c8];exact t.kept (r:=none) (aF (ak _ _) _) pu
 have d4:ab x2 I 65 [.slice none 0 0, .slice none 0 0]:=by rw[c3,c6];exact aO _ _
 have b8:dm x2 ⟨I, .slice none 0 0, .slice none 0 0,[]⟩ (jm c n f 0):=⟨d4,rfl,nX _ _ _,nX _ _ _,λi m u hm=>by simp at hm,λi j m k _ hm=>by simp at hm,λi m hm=>by simp at hm⟩;have b5:∀b∈(⟨I, .slice none 0 0, .slice none 0 0,[]⟩:LA).fp,x.heap.size<=b:=λb d=>by
  obtain rfl:b=I:=by simpa[LA.fp,Value.ownBlock]using d
  rw[c6];exact g1.size
 have j1:=Hq b';have i6:=Hq b8;have i4:=Hq b5;have i5:=Hq g2;have j4:=Hq c3;have j3:=Hq c8;have f3:I=SB+1:=by rw[c6,c8];simp
 have i7:=Hq f3;clear hf hs b' d4 b8 b5 g1 g2 c3 c8 c6 f3;unfold S at*;go_enter func24,ntmps24;go_wp2_with fail;rw[<-j4.out];rw[<-j3.out];rw[<-i7.out];go_loopw [34] (λe8 wr=>∃i:Nat,i<=n/\e8= .int .i64 i/\∃A,Hid (A.lk=I/\A.air= .slice none 0 0/\A.ns.length=i)/\Hid (dm wr A (jm c n f i))/\Hid (ab wr SB 9 [.string ⟨c.toArray⟩])/\Hid (x.grownBy wr none)/\Hid (∀b∈A.fp,x.heap.size<=b)/\Hid (∀b∈A.nodes.ownBlock.toList,x.heap.size<=b)/\Hid (∀j,j<i->Ox c n f j)) (λe8 _=>n-(intOf e8).toNat)
 case atStart=>exact ⟨0,pm,rfl,_,Hq ⟨rfl,rfl,rfl⟩,i6,j1,i5,i4,Hq (by simp[Value.ownBlock]),Hq (λj hj=>pm)⟩
 case round=>
  obtain ⟨i,hi,rfl,A,w,b8,b',d2,b5,i0,g7⟩:=hrel;by_cases d5:i<n
  ·have hd:decide ((i:Int)<(n:Int))=true:=pp;obtain ⟨ad,e1,c0,j9⟩:=HF.out i d5;subst e1;have c1:=d2.out.cell c0 pu;obtain ⟨w0,c2⟩:=kq wr;clear c0;go_wp2_with fail;go_loopw [10,41] (λe7 e9 wr=>∃k:Nat,k<=n/\e9= .int .i64 k/\∃pa pc p,e7= .slice pa p.length pc/\Hid (p.map Prod.fst=jq c i k)/\Hid (pU wr e7 p)/\Hid (w0.grownBy wr none)/\Hid (∀b∈e7.ownBlock.toList,w0.heap.size<=b)) (λ_ e9 _=>n-(intOf e9).toNat)
   case atStart=>exact ⟨0,pm,rfl,none,0,[],rfl,Hq rfl,Hq (pU.nil _),Hq (by rw[c2];exact ak _ _),Hq (by simp[Value.ownBlock])⟩
   case round=>
    obtain ⟨k,hk,rfl,pa,pc,p,rfl,a9,d8,c9,d9⟩:=hrel;by_cases d4:k<n
    ·have j6:decide ((k:Int)<(n:Int))=true:=pp;have a4:=b'.out.kept (by rw[<-c2];exact c9.out) pu;rcases hki:((k:Int)==(i:Int))with _|_
     ·have a3:=CW wr SB c HS.out (ab.cell a4 0) k pm;have n1:IntKind.i64.wrap (20+(i:Int))=20+(i:Int):=dG _ pm;have n2:IntKind.i64.wrap (20+(i:Int)+(k:Int))=20+(i:Int)+(k:Int):=dG _ pm;have n3:IntKind.i64.wrap ((k:Int)+1)=(k:Int)+1:=dG _ pm;have n4:IntKind.u32.wrap ((k:Int)+1)=(k:Int)+1:=pN _ pm;have n5:IntKind.u32.wrap (k:Int)=(k:Int):=pN _ pm;have c5:=Hq a4;unfold S ptr at a3;clear a4;go_wp2_with fail;refine ax a3 λy1 a6=>?_;have AP:=xP y1 (iV c k) (tf c k);obtain ⟨ag,e0⟩:=kq (cS (iV c k) eB);rw[<-e0]at AP;have f0:=Hq e0;have d0:=Hq a6;unfold S at AP;clear a3 e0 a6;go_wp2_with fail;refine ax AP λy2 b6=>?_;have U:=Hq (ai d0.out b6);have C:=CW y2 SB c HS.out (ab.cell (c5.out.kept U.out pu) 0) (20+i+k) pm;rw[show((20+i+k:Nat):Int)=20+(i:Int)+(k:Int)from pm]at C;obtain ⟨aD,d'⟩:=kq (iV c (20+i+k));rw[<-d']at C;have e':=Hq d';unfold S ptr at C;clear AP d' b6;go_wp2_with fail;refine ax C λl g0=>?_;have f1:=Hq (ai U.out g0);clear C g0;obtain ⟨W5,b3⟩:=kq ((l.alloc (.cells #[.int .u32 (167772160+(k:Int)*256), .int .i64 24] 88)).alloc (.cells #[.string ⟨ag.toArray⟩, .string ⟨aD.toArray⟩, .int .u32 ((k:Int)+1), .slice (some ⟨l.heap.size,0,none⟩) 1 1] 91))
      have ga:l.grownBy (l.alloc (.cells #[.int .u32 (167772160+(k:Int)*256), .int .i64 24] 88)) none:=aF (ak _ _) _;have g5:l.grownBy W5 none:=by rw[b3];exact aF ga _
      have h8:ab W5 l.heap.size 88 [.int .u32 ((tq c i k).addr), .int .i64 24]:=by have t:ab (l.alloc (.cells #[.int .u32 (167772160+(k:Int)*256), .int .i64 24] 88)) l.heap.size 88 [.int .u32 (167772160+(k:Int)*256), .int .i64 24]:=aO l _;have P:=t.kept (r:=none) (aF (ak _ _) (.cells #[.string ⟨ag.toArray⟩, .string ⟨aD.toArray⟩, .int .u32 ((k:Int)+1), .slice (some ⟨l.heap.size,0,none⟩) 1 1] 91)) pu;rw[<-b3]at P;rw[show((tq c i k).addr:Int)=167772160+(k:Int)*256from by show((167772160+256*k:Nat):Int)=_;omega];exact P
      have h6:ab W5 (l.heap.size+1) 91 (mz (tq c i k,l.heap.size)):=by have t:ab _ (l.alloc (.cells #[.int .u32 (167772160+(k:Int)*256), .int .i64 24] 88)).heap.size 91 [.string ⟨ag.toArray⟩, .string ⟨aD.toArray⟩, .int .u32 ((k:Int)+1), .slice (some ⟨l.heap.size,0,none⟩) 1 1]:=aO (l.alloc (.cells #[.int .u32 (167772160+(k:Int)*256), .int .i64 24] 88)) _;rw[b3,f0.out,e'.out];rw[f0.out,e'.out]at t;rw[show(l.alloc (.cells #[.int .u32 (167772160+(k:Int)*256), .int .i64 24] 88)).heap.size=l.heap.size+1from pu]at t;exact t
      have i2:p.length<=1000000:=by have q:=Au c i k;rw[<-a9.out,cY]at q;omega
      obtain ⟨va,vc,w5,a8,h7,g3,g'⟩:=X8 W5 (.slice pa p.length pc) p ((d8.out.new f1.out).new g5) (tq c i k,l.heap.size) (l.heap.size+1) h6 h8 i2;have e4:w0.grownBy W5 none:=by rw[c2];exact ai (by rw[<-c2];exact c9.out) (ai f1.out g5)
      have i8:=Hq (sV e4 (aC.grown g3) d9.out);have b0:Hid (∀b∈(Value.slice va (p.length+1) vc).ownBlock.toList,w0.heap.size<=b):=Hq (λb d=>by
       rcases g' with e|e
       ·rw[e]at d;exact d9.out b d
       rw[e]at d;obtain rfl:b=W5.heap.size:=by simpa using d
       exact e4.size)
      have i9:=Hq h7;rw[b3]at a8;clear b3 ga g5 h8 h6 i2 h7 g3 g' e4;go_wp2_with (at_builtin;go_must (refine zy 84 rfl _ _ _ _ _ w5 a8 rfl rfl rfl rfl ?_));go_roundw
      case rel=>
       refine ⟨k+1,pm,by go_num,va,vc,p++[(tq c i k,l.heap.size)],by rw[aK];rfl,Hq ?_,Hq ?_,i8,b0⟩
       ·rw[jW,a9.out,jq,au (by intro e;subst e;simp at hki)];rfl
       exact i9.out
      case measure=>simp[intOf];omega
     have j5:k=i:=by have q:=sd.1 hki;omega
     go_wp2;go_roundw
     case rel=>exact ⟨k+1,pm,by go_num,pa,pc,p,rfl,Hq (by rw[a9.out,jq,av j5]),d8,c9,d9⟩
     case measure=>simp[intOf];omega
    have j6:decide ((k:Int)<(n:Int))=false:=pp;obtain rfl:k=n:=pm;have b7:=c9.out;rw[c2]at b7;have a4:=b'.out.kept b7 pu;have c4:=Hq (b8.out.new b7);have a':=Hq (ai d2.out b7);have c5:=Hq a4;have a3:=CW wr SB c HS.out (ab.cell a4 0) i pm;have n1:IntKind.i64.wrap ((i:Int)+1)=(i:Int)+1:=dG _ pm;have n2:IntKind.u32.wrap ((i:Int)+1)=(i:Int)+1:=pN _ pm;have n3:IntKind.i64.wrap ((i:Int)+10)=(i:Int)+10:=dG _ pm;unfold S ptr at a3;clear b7 a4;go_wp2_with fail;refine ax a3 λy1 a6=>?_;have d0:=Hq a6;have C:=CW y1 SB c HS.out (ab.cell (c5.out.kept a6 pu) 0) (i+10) pm;rw[show((i+10:Nat):Int)=(i:Int)+10from pm]at C;unfold S ptr at C;clear a3 a6;go_wp2_with fail;refine ax C λy2 b6=>?_;have U:=Hq (ai d0.out b6);clear C b6;by_cases a2:f i=1\/f i=2
    ·have f':((f i).toNat:Int)=f i:=by rcases a2 with e|e<;>rw[e]<;>rfl
     have R:=UG y2 (i+1) (iV c i) (iV c (i+10)) (f i).toNat (.slice pa p.length pc) p (d8.out.new U.out) pm pm (tf _ _) (tf _ _) (by rcases a2 with e|e<;>rw[e]<;>simp) (λz hz=>IL c i k pm z.1 (by rw[<-a9.out];exact List.mem_map_of_mem hz)) (by have q:=Au c i k;rw[<-a9.out,cY]at q;omega)
     rw[f',show((i+1:Nat):Int)=(i:Int)+1from pm,a9.out]at R;have i3:=Hq a2;unfold S at R;clear a2 f';go_wp2_with fail;refine R.mono ?_;rintro e o ⟨e5,e6⟩;clear R;by_cases a7:xB (iV c i) (jq c i k)
     ·obtain ⟨s,Ps,rfl,f8,a0,f9⟩:=e5 a7;have i':=Hq a7;clear e5 e6 a7;obtain ⟨N1,c7⟩:=kq o.heap.size;obtain ⟨J,b4⟩:=kq ((o.alloc (.cells #[ptr s.dev, .slice none 0 0] 69)).alloc (.cells #[.pointer (some ⟨o.heap.size,0,none⟩)] 66));have d1:wr.grownBy o none:=ai U.out a0;have ga:o.grownBy (o.alloc (.cells #[ptr s.dev, .slice none 0 0] 69)) none:=aF (ak _ _) _;have g6:o.grownBy J none:=by rw[b4];exact aF ga _
      have b1:wr.grownBy J none:=ai d1 g6;have b9:=c4.out.new b1;have f5:ab J N1 69 [ptr s.dev, .slice none 0 0]:=by have t:ab (o.alloc (.cells #[ptr s.dev, .slice none 0 0] 69)) o.heap.size 69 [ptr s.dev, .slice none 0 0]:=aO o _;have P:=t.kept (r:=none) (aF (ak _ _) (.cells #[.pointer (some ⟨o.heap.size,0,none⟩)] 66)) pu;rw[<-b4,<-c7]at P;exact P
      have f6:ab J (o.heap.size+1) 66 [ptr N1]:=by have t:ab _ (o.alloc (.cells #[ptr s.dev, .slice none 0 0] 69)).heap.size 66 [.pointer (some ⟨o.heap.size,0,none⟩)]:=aO (o.alloc (.cells #[ptr s.dev, .slice none 0 0] 69)) _;rw[show(o.alloc (.cells #[ptr s.dev, .slice none 0 0] 69)).heap.size=o.heap.size+1from pu]at t;rw[b4,c7];exact t
      obtain ⟨na,nc,a1⟩:=gj c4.out.row;rw[w.out.2.2]at a1;have h9:aZ J 66 1 (.slice na i nc) i (A.ns.map λn=>ptr n.nd):=by have q:=b9.row;rw[a1,w.out.2.2]at q;exact q
      obtain ⟨va,vc,w7,a8,h',g4,h5,d7⟩:=X5 J (.slice na i nc) i _ h9 N1 (o.heap.size+1) f6 pm;have b2:aC J w7 A.nodes.ownBlock.toList:=by rw[a1];exact aC.grown g4
      have d3:∀b∈A.nodes.ownBlock.toList,cD J b=some 66:=λb d=>(b9.row.kind b (by simpa using d)).1;have g8:jf J ⟨N1, .slice none 0 0,s,Ps⟩ (DS c k f i):=⟨f5,nX _ _ _,f8.new g6,λb d=>by simp[Value.ownBlock]at d⟩;have g9:=g8.rows b2 d3;have d6:∀b∈(⟨N1, .slice none 0 0,s,Ps⟩:NA).fp,y2.heap.size<=b:=λb d=>by
       simp only[NA.fp,Value.ownBlock,Option.toList,kP,bp]at d;rcases d with e|e
       ·rw[e,c7];exact a0.size
       exact f9 b e
      have i1:x.heap.size<=y2.heap.size:=bJ a'.out.size U.out.size;have f4:∀m∈A.ns,∀b∈(⟨N1, .slice none 0 0,s,Ps⟩:NA).fp,b∉m.fp:=λm hm b d hc=>by have q1:=d6 b d;have q2:=(c4.out.kinds b (by simp only[LA.fp,bp,bG];exact Or.inr (Or.inr (mE.2 ⟨m,hm,hc⟩)))).2;have q3:=U.out.size;omega
      have HM:=Hq (ZT b9 b2 (by rw[a1];exact d7) w.out.2.2 h' g9 f4 (by rw[w.out.2.1];rfl) (ai a'.out b1) b5.out i0.out (λb d=>bJ i1 (d6 b d)));have j0:Hid (∀b∈(Value.slice va (i+1) vc).ownBlock.toList,x.heap.size<=b):=Hq (λb d=>by
       rcases h5 with e|e
       ·rw[e,<-a1]at d;exact i0.out b d
       rw[e]at d;obtain rfl:b=J.heap.size:=by simpa using d
       exact bJ a'.out.size b1.size)
      have k0:o.cell? ⟨I,0,none⟩=some (.slice na i nc):=by have q:=ab.cell (c4.out.new d1).lk 0;rw[w.out.1]at q;rw[<-a1];exact q
      have c':=(b9.rows b2 (by rw[w.out.2.2,a1];exact d7)).lk;have k7:w7.cell? ⟨I,0,none⟩=some (.slice na i nc):=by have q:=ab.cell c' 0;rw[w.out.1]at q;rw[<-a1];exact q
      have f7:w7.frozen? ⟨I,0,none⟩=false:=by have q:=ab.frozen c' 0;rw[w.out.1]at q;exact q
      have e2:=c5.out.kept b1 pu;have e3:=b2.bu e2 (λhm=>by have q:=d3 _ hm;rw[e2.kind]at q;exact absurd (aH q) ut)
      have j2:Hid (ab (w7.setCell ⟨A.lk,0,none⟩ (.slice va (i+1) vc)) SB 9 [.string ⟨c.toArray⟩]):=Hq (by have g:=aw (ak w7 (some A.lk)) 0 (.slice va (i+1) vc);refine e3.kept g (λe=>?_);have q:=c'.kind;rw[<-aH e,e3.kind]at q;exact absurd (aH q) ut)
      rw[b4]at a8;clear b4 c7 d1 ga g6 b1 b9 f5 f6 a1 h9 h' g4 h5 d7 b2 d3 g8 g9 d6 i1 f4 c' e2 e3 f8 a0 f9;unfold ptr at a8⊢;go_wp2_with (at_builtin;go_must (refine zy 63 rfl _ _ _ _ _ w7 a8 rfl rfl rfl rfl ?_));go_roundw
      case rel=>
       obtain ⟨P,h2,h3⟩:=HM.out;rw[ZN]at P;have h4:=j2.out;rw[w.out.1]at P h2 h3 h4;exact ⟨i+1,pm,by go_num,⟨I, .slice va (i+1) vc,A.air,A.ns++[⟨N1, .slice none 0 0,s,Ps⟩]⟩,Hq ⟨rfl,w.out.2.1,by rw[aK,w.out.2.2];rfl⟩,Hq P,Hq h4,Hq h2,Hq h3,j0,Hq (λj hj=>by
        rcases eR j i with e|e
        ·exact g7.out j e
        obtain rfl:j=i:=pm;exact ⟨i3.out,i'.out⟩)⟩
      case measure=>simp[intOf];omega
     obtain ⟨rfl,a0⟩:=e6 a7;have HX:=Hq (ai a'.out (ai U.out a0));have b0:=Hq a7;clear e5 e6 a7 a0;go_wp2;go_ret2;exact ⟨λh=>absurd (h.2.2.2 i d5).2 b0.out,λ_=>⟨8,pm,rfl,HX.out⟩⟩
    have R:=UH y2 (i+1) (iV c i) (iV c (i+10)) (f i) pa p.length pc pm (tf _ _) (tf _ _) ⟨λe=>a2 (Or.inl e),λe=>a2 (Or.inr e)⟩;rw[show((i+1:Nat):Int)=(i:Int)+1from pm]at R;have b0:=Hq a2;unfold S at R;clear a2;go_wp2_with fail;refine ax R λo a0=>?_;have HX:=Hq (ai a'.out (ai U.out a0));clear R a0;go_wp2;go_ret2;exact ⟨λh=>absurd (h.2.2.2 i d5).1 b0.out,λ_=>⟨1,pm,rfl,HX.out⟩⟩
  have hd:decide ((i:Int)<(n:Int))=false:=pp
  obtain rfl:i=n:=pm
  go_wp2;go_ret2;exact ⟨λ_=>⟨A,by rw[w.out.1];rfl,b8.out,d2.out,b5.out⟩,λh=>absurd ⟨HS.out,j7,j8,g7.out⟩ h⟩
def An {d:af}{i:Nat}:∀{m:Nat} {a:di},a∈jq d i m->∃k,k<m/\k≠i/\a=tq d i k
 |0,a,h=>by cases h
 |m+1,a,h=>by
  rw[jq]at h;split at h
  ·obtain ⟨k,f,b,c⟩:=An h;exact ⟨k,pm,b,c⟩
  rename_i hm;rcases bG.1 h with e|e
  ·obtain ⟨k,f,b,c⟩:=An e;exact ⟨k,pm,b,c⟩
  exact ⟨m,pm,hm,jG.1 e⟩
def OJ {l:List di}{p:Pe Bg}(h:p∈mB l m):∃(j:Nat) (a:di),j<m/\a∈l/\p=mA j a:=by obtain ⟨j,e⟩:=nw h;obtain ⟨a,b,c,d⟩:=PI l m e;exact ⟨j,a,b,dc c,d⟩
def Ip {a:af}{f:Nat->Int}{x:No Bg Bu}(h:(jm a n f m).nodes[i]?=some x):i<m/\x=DS a n f i:=by
 unfold jm at h;rw[fQ]at h;rcases eR i m with e|e
 ·rw[List.getElem?_range e]at h;exact ⟨e,(aH h).symm⟩
 rw[eE (by simpa using e)]at h;cases h
def Io (a:af)(n m:Nat)(f:Nat->Int):(jm a n f m).nodes.length=m:=by unfold jm;rw[cY,List.length_range]
def J9 {a:af}{k j:Nat}(c:j<8)(e:k<=8):dR 0 (mA j (tq a i k)):=by refine ⟨⟨c,ti _ _,tf _ _,by show k+1<_;omega,Or.inl rfl,Or.inl rfl,by show 0<=_;omega,by show 0<=_;omega,Or.inl rfl,by show 0<=_;omega,by show 0<=_;omega,λt d=>(by cases d),by show 0<_;omega,by show 0<=_;omega,λh=>(by cases h),λs h=>(by cases h),λs h=>(by cases h),λs h=>(by cases h),by show 0<=_;omega,by show 0<=_;omega,by show 0<=_;omega⟩,λb h=>(by cases h)⟩
def ZL {b:af}{f:Nat->Int}(h:sj b n f):jJ 1 (jm b n f n):=by
 obtain ⟨J,z,C,c⟩:=h;refine ⟨by rw[Io];omega,λi x w=>?_,λg c=>(by cases c),by show 0<=_;omega⟩;obtain ⟨t,rfl⟩:=Ip w;have s:=(c i t).1;have I:=Au b i n;have u:(xT (i+1) (iV b i) (iV b (i+10)) (f i).toNat (jq b i n)).aI.length=(jq b i n).length:=DX _ _ (bm _);rw[Io];refine ⟨⟨⟨by show i+1<_;omega,tf _ _,ti _ _,tf _ _,by show(f i).toNat=1\/(f i).toNat=2;rcases s with e|e<;>rw[e]<;>decide,nU _ _,by show 0<=_;omega,bm _,fE _,fE _,fE _,⟨Int.le_refl _,Int.le_refl _⟩,fE _,fE _,pm⟩,λp l=>?_,by show(xT (i+1) (iV b i) (iV b (i+10)) (f i).toNat (jq b i n)).aI.length<=8;rw[u];omega⟩,⟨⟨by show 1<=i+1;omega,by show i+1<=n;omega,λg c=>(by cases c)⟩,λp l=>?_⟩,rfl,fE _⟩
 ·obtain ⟨j,a,o,d,rfl⟩:=OJ l;obtain ⟨k,q,r,rfl⟩:=An d;exact J9 pm pm
 obtain ⟨j,a,o,d,rfl⟩:=OJ l;obtain ⟨k,q,r,rfl⟩:=An d;exact ⟨by show 1<=k+1;omega,by show k+1<=n;omega,by show i+1≠k+1;omega⟩
def ZJ (a:af)(n m:Nat)(f:Nat->Int):Empty (jm a n f m):=λx c=>by obtain ⟨i,b⟩:=nw c;obtain ⟨_,rfl⟩:=Ip b;exact ⟨rfl,rfl⟩
def ZM {b:af}(q:n<=3)(f:Nat->Int):∀u∈(jm b n f n).nodes,tV u.de:=λu l a k h=>by
 obtain ⟨i,g⟩:=nw l;obtain ⟨p,rfl⟩:=Ip g;have h:rK (fU (λj=>(((jq b i n)[j]?).map di.addr).getD 0) (jq b i n).length) a=some k:=h;obtain ⟨_,d,_⟩:=X4 _ _ _ _ (λj c=>by obtain ⟨o,_,_,e⟩:=An (iE c);have:=Au b i n;rw[aW c,e];show 167772160+256*o<_;omega) h
 show k<(mB (jq b i n) (jq b i n).length).length;rw[DX _ _ (bm _)];exact d
def ZK {A:LA}{a:af}{f:Nat->Int}(ok:sj a n f)(h:dm x A (jm a n f n)):si x A 1 (jm a n f n):=⟨h,ZL ok,ZJ _ _ _ _,ZM ok.2.2.1 f⟩
end
end Go.Proofs.YtmomfbkpniblgaaGreatDoor
