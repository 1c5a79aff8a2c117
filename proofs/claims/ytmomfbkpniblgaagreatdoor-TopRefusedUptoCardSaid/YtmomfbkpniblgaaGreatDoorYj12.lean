/- A part of this claim's proof. -/
import Derived.Test.YtmomfbkpniblgaaGreatDoorYj08
import Derived.Deep.QuietTactic
import Derived.BigQuiet
set_option linter.all false
set_option maxHeartbeats 8000000
set_option maxRecDepth 20000
namespace Go.Proofs.YtmomfbkpniblgaaGreatDoor
open Go.Proofs.Tryz
variable {L:Ln}
section
open Go.RowKit
def Mq w (S D o n d:Nat)(t1 h:TypeId) xs ys (f:HB w S t1 xs)(c:HB w D h ys)(b:xs.length=n)(k:o+n<=ys.length):
 (Builtin.copy_ #[339,339] 3 #[.slice (some ⟨D,o,none⟩) n d, .slice (some ⟨S,0,none⟩) n n]).run prog w= .ok (.int .i64 n) (w.setCells D o (xs.map eZ)):=by
 have:=run_copy_cells (P:=prog) w 339 339 3 33 D o n d ⟨S,0,none⟩ n n (xs.map eZ) underlying339 Af (by simp[b]) ?_ ?_ ?_ ?_
 ·rw[cY,b]at this;exact this
 ·intro j v a;have e:(⟨S,0,none⟩:Addr).add j=⟨S,j,none⟩:=by cases j<;>simp[Addr.add]
  rw[e,ab.cell f j,a]
 ·intro j a;have i:j<n:=by simpa[b]using a
  rw[ab.cell c (o+j),aW pp];rfl
 ·intro j a;exact ab.frozen c _
 intro v g;obtain ⟨n,_,rfl⟩:=eS.1 g;rfl
def Ht {D:Nat}{t:TypeId}:∀(a:Ln) (w:World) (b:Ln) (o:Nat),HB w D t b->o+a.length<=b.length->HB (w.setCells D o (a.map eZ)) D t (b.take o++a++b.drop (o+a.length))
 |[],w,b,o,h,_=>by simpa[World.setCells]using h
 |x::a,w,b,o,h,c=>by
  simp only[oC,World.setCells];have d:o+1+a.length<=(b.set o x).length:=by simp at c⊢;omega
  have:=Ht a (w.setCell ⟨D,o,none⟩ (.int .u32 x)) (b.set o x) (o+1) (h.set o x) d;have e:(b.set o x).take (o+1)++a++(b.set o x).drop (o+1+a.length)=b.take o++(x::a)++b.drop (o+(x::a).length):=by
   have q:o<b.length:=by simp at c;omega
   rw[fP (by simpa using q),EN,List.take_set_of_le (bm _),List.drop_set_of_lt pm];simp only[eI,dM,pL,kP];rw[show o+1+a.length=o+(a.length+1)from pm]
  rw[e]at this;exact this
def mK(b:Lb)(i:Nat):Ln:=mM b i++List.replicate (16-i) 0
def CC b (n:Nat):(mM b n).length=n:=by simp[mM]
def ZW b (i:Nat)(h:i<=16):(mK b i).length=16:=by unfold mK;rw[aK,CC,wW];omega
def ZX b (i:Nat)(h:i<16):(mK b i).set i (aQ ((b.drop (4*i)).take 4))=mK b (i+1):=by
 unfold mK;rw[kp _ _ (by rw[CC];omega),CC,il,show 16-i=(16-(i+1))+1from pm,Bx,iD];have:mM b (i+1)=mM b i++[aQ ((b.drop (4*i)).take 4)]:=by unfold mM;rw[BS,jW];rfl
 rw[this,dM];rfl
def ZV b:mK b 16=mM b 16:=by unfold mK;simp
def Oq (l:Lb):aQ (l.take 4)<4294967296:=by refine fW (wh _) ?_;exact (lI pm (by rw[aJ];omega):256^(l.take 4).length<=256^4)
def SU b (n:Nat):fl (mM b n):=by intro x a;obtain ⟨i,_,rfl⟩:=eS.1 a;exact Oq _
def wH (h:fl L)(i n:Nat)(b:n<4294967296):fl (L.set i n):=by
 intro x c;rcases pH c with a|a
 ·exact h x a
 rw[a];exact b
def SP {a b c d x y:Nat}(g:b<4294967296)(h:d<4294967296):(vN a b c d x y).1<4294967296/\(vN a b c d x y).2.1<4294967296/\(vN a b c d x y).2.2.1<4294967296/\(vN a b c d x y).2.2.2<4294967296:=by
 unfold vN;simp only;have e:=jr (s:=16) (gG h (qA a (df b x)));have f:=jr (s:=20) (gG g (qA c (eG (d^^^df a (df b x)) 16)));refine ⟨qA _ _,?_,qA _ _,?_⟩
 ·exact jr (gG f (qA _ _))
 exact jr (gG e (qA _ _))
def SR (h:fl L)(i j k l x y:Nat):fl (sE i j k l x y L):=by have q:=SP (a:=L.getD i 0) (c:=L.getD k 0) (x:=x) (y:=y) (fS h j) (fS h l);unfold sE;simp only;exact wH (wH (wH (wH h _ _ q.1) _ _ q.2.1) _ _ q.2.2.1) _ _ q.2.2.2
def SQ (i j k l x y:Nat) L:(sE i j k l x y L).length=L.length:=by simp[sE]
def oF(v:Ln):Prop:=v.length=16/\fl v
def SO {v}(h:oF v) p (x y:Nat):oF (FM p x y v):=⟨by unfold FM;rw[SQ];exact h.1,SR h.2 _ _ _ _ _ _⟩
def FO {v}(h:oF v) m l:∀i,oF (rb m l v i)
 |0=>h
 |i+1=>SO (FO h m l i) _ _ _
def CA {v}(h:oF v) m:∀r,oF (re m v r)
 |0=>h
 |r+1=>FO (CA h m r) _ _ _
def KN (h:Ln)(d:h.length=8)(e:fl h)(many:Nat)(hm:many<18446744073709551616)(g:Bool):oF (sG h many g):=by
 have b:oF (h++fj):=⟨by rw[aK,d];rfl,by intro x f;rcases bG.1 f with q|q;exact e x q;exact Jn x q⟩;have c:oF ((h++fj).set 12 ((h++fj).getD 12 0^^^many%4294967296)):=⟨by simpa using b.1,wH b.2 _ _ (gG (fS b.2 _) (dQ _ pm))⟩;have a:oF (((h++fj).set 12 ((h++fj).getD 12 0^^^many%4294967296)).set 13 (((h++fj).set 12 ((h++fj).getD 12 0^^^many%4294967296)).getD 13 0^^^many/4294967296)):=⟨by simpa using c.1,wH c.2 _ _ (gG (fS c.2 _) pm)⟩;unfold sG;simp only;split
 ·exact ⟨by simpa using a.1,wH a.2 _ _ (gG pm (fS a.2 _))⟩
 exact a
def uT(h V:Ln):Ln:=(List.range 8).map λi=>h.getD i 0^^^(V.getD i 0^^^V.getD (i+8) 0)
def pF(h V:Ln)(i:Nat):Ln:=(uT h V).take i++h.drop i
def Be h V:(uT h V).length=8:=by simp[uT]
def acR (h V:Ln)(b:h.length=8)(i:Nat)(a:i<=8):(pF h V i).length=8:=by unfold pF;rw[aK,aJ,aR,Be];omega
def acQ (h V:Ln)(b:h.length=8)(i:Nat)(a:i<8):(pF h V i)[i]?=some (h.getD i 0):=by unfold pF;rw[qI (by rw[aJ,Be];omega),aJ,Be,qL,show i+(i-min i 8)=i from pm];exact getD_some h i pm
def acS (h V:Ln)(b:h.length=8)(i:Nat)(a:i<8):(pF h V i).set i (h.getD i 0^^^(V.getD i 0^^^V.getD (i+8) 0))=pF h V (i+1):=by unfold pF;have l:=Be h V;rw[kp _ _ (by rw[aJ];omega),aJ,l,show i-min i 8=0from pm,jV (show i<h.length by omega),iD,fP (show i<(uT h V).length by omega),dM];congr 2;simp[uT]
def acP (h V:Ln)(a:h.length=8):pF h V 8=uT h V:=by unfold pF;rw[iP pm,ev,cE (by rw[Be];omega)]
def Hs {w}{B:Nat}{t:TypeId}{l}(h:HB w B t l):HB w.drew B t l:=h
def uG(k:Nat):Array Value:=#[.int .i64 ((fq.getD k []).getD 0 0:Nat), .int .i64 ((fq.getD k []).getD 1 0:Nat), .int .i64 ((fq.getD k []).getD 2 0:Nat), .int .i64 ((fq.getD k []).getD 3 0:Nat)]
def zU:Lv:=List.replicate 16 (.int .u8 0)
def zP:Lv:=List.replicate 32 (.int .i64 0)
def Tr (l:Ln):∀v∈l.map c8,v.oneCell'=true:=by intro v a;obtain ⟨n,_,rfl⟩:=eS.1 a;rfl
def Hj (L:Ln)(i j n:Nat)(h:i≠j):(L.set i n).getD j 0=L.getD j 0:=by rw[dh,lJ h,dh]
def SS (h:Ln)(many:Nat)(a:Bool)(b:h.length=8):sG h many a=
 (if a then(((h++fj).set 12 ((h++fj).getD 12 0^^^many%4294967296)).set 13 ((h++fj).getD 13 0^^^many/4294967296)).set 14 (4294967295^^^(h++fj).getD 14 0)
 else((h++fj).set 12 ((h++fj).getD 12 0^^^many%4294967296)).set 13 ((h++fj).getD 13 0^^^many/4294967296)):=by
 unfold sG;simp only[Hj _ 12 13 _ pm,Hj _ 13 14 _ pm,Hj _ 12 14 _ pm]
def Lo w (h:Ln)(b:Lb)(many:Nat)(d2:Bool)(hl:h.length=8)(hs:fl h)(hb:b.length=64)(hm:many<18446744073709551616):
 Calls prog 210 #[fV h,S b, .int .u64 many, .bool d2] w (Grown (fV (kD h b many d2)) w):=by
 obtain ⟨B,hB⟩:=kq w.heap.size;obtain ⟨x,hx⟩:=kq (((w.alloc (.cells (h.map eZ).toArray 289)).alloc (.cells Ci 289)).alloc (.cells tY 344));have s1:(w.alloc (.cells (h.map eZ).toArray 289)).heap.size=B+1:=by rw[hB];simp
 have s2:((w.alloc (.cells (h.map eZ).toArray 289)).alloc (.cells Ci 289)).heap.size=B+1+1:=by rw[hB];simp
 have u:HB x B 289 h:=by rw[hx,hB];exact cG (cG (aO _ _))
 have f:HB x (B+1) 289 [0,0,0,0,0,0,0,0]:=by rw[hx,<-s1];exact cG (aO _ _)
 have bV:HB x (B+1+1) 344 [0,0,0,0,0,0,0,0,0,0,0,0,0,0,0,0]:=by rw[hx,<-s2];exact aO _ _
 have l4:w.grownBy x none:=by rw[hx];exact aF (aF (aF (ak w none) _) _) _
 have k7:=Mq x.drew B (B+1+1) 0 8 16 _ _ h _ u bV hl pu;have f9:HB (x.drew.setCells (B+1+1) 0 (h.map eZ)) (B+1+1) 344 (h++[0,0,0,0,0,0,0,0]):=by have:=Ht h x.drew _ 0 bV (by simp[hl]);rw[hl]at this;exact this
 have g1:x.grownBy (x.drew.setCells (B+1+1) 0 (h.map eZ)) (some (B+1+1)):=qm _ _ _ _ _ (aM (ak _ _));have there:∀i,i<8->(x.cell? ⟨B,i,none⟩).isSome=true:=λi hi=>by rw[ab.cell u i,aW (by simp[hl];omega)];rfl
 obtain ⟨x1,n4⟩:=kq (x.drew.setCells (B+1+1) 0 (h.map eZ));rw[<-n4]at k7 f9 g1;have b1:=Hq hB;have HX:=Hq hx;have t:=Hq hl;have HS:=Hq hs;have e9:=Hq hb;have j:=Hq (ab.kept u g1 pp);have k:=Hq (ab.kept f g1 pu);have l:=Hq f9;have HG:=Hq (cJ l4 g1 pm);have h8:(8:Int)<=16:=pm
 clear hB hx hl hs hb s1 s2 u f bV l4 f9 g1 n4;unfold fV S;go_enter func210,ntmps210;go_upto_region 2with(fail);rw[<-b1.out,<-HX.out];go_region;go_upto_region 3with(fail);go_wp2_with fail;refine ax (LV _) λx2 b7=>?_;obtain ⟨I,hI⟩:=kq x2.heap.size;obtain ⟨y,hy⟩:=kq (x2.alloc (.cells #[.int .u32 1779033703, .int .u32 3144134277, .int .u32 1013904242, .int .u32 2773480762, .int .u32 1359893119, .int .u32 2600822924, .int .u32 528734635, .int .u32 1541459225] 289));have bI:HB y I 289 fj:=by rw[hy,hI];unfold HB;rw[Oa];exact aO _ _
 have f':HB y (B+1+1) 344 (h++[0,0,0,0,0,0,0,0]):=by rw[hy];exact cG (ab.kept l.out b7 nofun)
 have j3:HB y B 289 h:=by rw[hy];exact cG (ab.kept j.out b7 nofun)
 have j5:HB y (B+1) 289 [0,0,0,0,0,0,0,0]:=by rw[hy];exact cG (ab.kept k.out b7 nofun)
 have l5:w.grownBy y none:=by rw[hy];exact aF (ai HG.out b7) _
 have u5:B+1+1<I:=by rw[hI];exact ab.lt (ab.kept l.out b7 nofun)
 have lv:(h++[0,0,0,0,0,0,0,0]).length=16:=by rw[aK,t.out];rfl
 have k8:=Mq y.drew I (B+1+1) 8 8 8 _ _ fj _ bI f' rfl (by rw[lv];omega);have C:HB (y.drew.setCells (B+1+1) 8 (fj.map eZ)) (B+1+1) 344 (h++fj):=by have:=Ht fj y.drew _ 8 f' (by rw[lv];decide);rw[Bl (by rw[t.out];omega),cE (by rw[t.out];omega),iP (by rw[lv];decide),ev]at this;exact this
 have g3:y.grownBy (y.drew.setCells (B+1+1) 8 (fj.map eZ)) (some (B+1+1)):=qm _ _ _ _ _ (aM (ak _ _));obtain ⟨y1,n6⟩:=kq (y.drew.setCells (B+1+1) 8 (fj.map eZ));rw[<-n6]at k8 C g3;have HI:=Hq hI;have HY:=Hq hy;have j:=Hq (ab.kept j3 g3 pp);have k:=Hq (ab.kept j5 g3 pu);have HG:=Hq (cJ l5 g3 (by have:=b1.out;omega));have a':oF (h++fj):=⟨by rw[aK,t.out];rfl,by intro x hx;rcases bG.1 hx with q|q;exact HS.out x q;exact Jn x q⟩;have n:=SS h many d2 t.out;have e6:=Hq (KN h t.out HS.out many hm d2);clear hI hy bI f' j3 j5 l5 n6 g3 lv b7;go_upto_region 4with(fail);rw[<-HI.out,<-HY.out];go_region;clear k8 there k7;obtain ⟨L0,j6⟩:=kq (h++fj);rw[<-j6]at n C a';obtain ⟨h9,d7⟩:∃v,v=L0.getD 12 0:=⟨_,rfl⟩;obtain ⟨h',d8⟩:∃v,v=L0.getD 13 0:=⟨_,rfl⟩;obtain ⟨e7,d9⟩:∃v,v=L0.getD 14 0:=⟨_,rfl⟩;have t8:h9<4294967296:=by rw[d7];exact fS a'.2 _
 have t9:h'<4294967296:=by rw[d8];exact fS a'.2 _
 have t':e7<4294967296:=by rw[d9];exact fS a'.2 _
 have r':y1.cell? ⟨B+1+1,12,none⟩=some (.int .u32 h9):=oY C (by rw[d7];exact getD_some L0 12 (by rw[a'.1];omega));have s0:y1.cell? ⟨B+1+1,13,none⟩=some (.int .u32 h'):=oY C (by rw[d8];exact getD_some L0 13 (by rw[a'.1];omega));have s3:y1.cell? ⟨B+1+1,14,none⟩=some (.int .u32 e7):=oY C (by rw[d9];exact getD_some L0 14 (by rw[a'.1];omega));have s8:=ab.frozen C 12;have s9:=ab.frozen C 13;have s':=ab.frozen C 14;rw[<-d7,<-d8,<-d9]at n;obtain ⟨m0,l',t6⟩:∃m0:Nat,many%4294967296=m0/\m0<4294967296:=⟨_,rfl,dQ _ pm⟩;obtain ⟨m1,m2,t7⟩:∃m1:Nat,many/4294967296=m1/\m1<4294967296:=⟨_,rfl,pm⟩;rw[l',m2]at n;obtain ⟨b9,d3,v0⟩:=pj h9 m0 t8 t6;obtain ⟨b',d4,v1⟩:=pj h' m1 t9 t7;obtain ⟨e8,c',v2⟩:=OT e7 t';rw[d3.1,d4.1,c'.1]at n;obtain ⟨-,d3⟩:=d3;obtain ⟨-,d4⟩:=d4;obtain ⟨-,c'⟩:=c';have s7:bits .xor .u32 (if IntKind.u32.signed=true then -1 else IntKind.u32.max) (e7:Int)=(e8:Int):=c';have q0:(many:Int)%4294967296=(m0:Int):=pm
 have q1:(many:Int)/4294967296=(m1:Int):=pm
 have u0:(many:Int)/4294967296%4294967296=(m1:Int):=pm
 have q2:(m1:Int)%4294967296=(m1:Int):=pm
 have b2:HB ((y1.setCell ⟨B+1+1,12,none⟩ (.int .u32 b9)).setCell ⟨B+1+1,13,none⟩ (.int .u32 b')) (B+1+1) 344 ((L0.set 12 b9).set 13 b'):=(C.set 12 b9).set 13 b';have b3:=b2.set 14 e8;have g2:=aw (aw (ak y1 (some (B+1+1))) 12 (.int .u32 b9)) 13 (.int .u32 b');have g3:=aw g2 14 (.int .u32 e8);have b5:=Hq n;have H2:=Hq b2;have H3:=Hq b3;have G2:=Hq g2;have G3:=Hq g3;clear a' n C j6 d7 d8 d9 l' m2 b2 b3 g2 g3;cases d2;all_goals go_upto_region 9with(fail)
 all_goals
  first
   |(obtain ⟨s,U⟩:∃s,s=(((y1.setCell ⟨B+1+1,12,none⟩ (.int .u32 b9)).setCell ⟨B+1+1,13,none⟩ (.int .u32 b')).setCell ⟨B+1+1,14,none⟩ (.int .u32 e8)):=⟨_,rfl⟩
     rw[<-U];have d5:∀V m,m=mM b 16->V=re m (sG h many true) 10->kD h b many true=uT h V:=λV m J e2=>by rw[e2,J];rfl
     have hv:HB s (B+1+1) 344 (sG h many true):=by have:=b5.out;rw[this,U];exact H3.out
     have c:y1.grownBy s (some (B+1+1)):=by rw[U];exact G3.out
     clear U)
   |(obtain ⟨s,U⟩:∃s,s=((y1.setCell ⟨B+1+1,12,none⟩ (.int .u32 b9)).setCell ⟨B+1+1,13,none⟩ (.int .u32 b')):=⟨_,rfl⟩
     rw[<-U];have d5:∀V m,m=mM b 16->V=re m (sG h many false) 10->kD h b many false=uT h V:=λV m J e2=>by rw[e2,J];rfl
     have hv:HB s (B+1+1) 344 (sG h many false):=by have:=b5.out;rw[this,U];exact H2.out
     have c:y1.grownBy s (some (B+1+1)):=by rw[U];exact G2.out
     clear U)
  obtain ⟨V0,j9,e6⟩:∃V0,V0=_/\Hid (oF V0):=⟨_,rfl,e6⟩;rw[<-j9]at hv d5;have o1:=Hq d5;clear j9 d5;clear r' s0 s3 s8 s9 s' d3 d4 c' s7 q0 q1 u0 q2 b5 H2 H3 G2 G3;have u:=ab.kept j.out c pp;have f:=ab.kept k.out c pu;obtain ⟨M,hM⟩:=kq s.heap.size;obtain ⟨z,g⟩:=kq (s.alloc (.cells tY 334));have bM:HB z M 334 (mK b 0):=by rw[g,hM];exact aO _ _
  have u6:B+1+1<M:=by rw[hM];exact ab.lt hv
  have l:=Hq (show HB z (B+1+1) 344 _ by rw[g];exact cG hv);have j:=Hq (show HB z B 289 h by rw[g];exact cG u);have k:=Hq (show HB z (B+1) 289 [0,0,0,0,0,0,0,0] by rw[g];exact cG f);have o6:=Hq (show w.grownBy z none by rw[g];exact aF (cJ HG.out c (by have:=b1.out;omega)) _);have p:=Hq bM;have HM:=Hq hM;have HZ:=Hq g;have r2:=dP;clear hv c u f hM g bM;go_upto_region 10with(fail);rw[<-HM.out,<-HZ.out];go_wp2_with fail;go_loopw [44] (λi0 wr=>∃i:Nat,i<=16/\i0= .int .i64 i/\Hid (HB wr M 334 (mK b i))/\Hid (z.grownBy wr (some M))) (λi0 _=>16-(intOf i0).toNat)
  case atStart=>exact ⟨0,pm,rfl,p,Hq (ak _ _)⟩
  case round=>
   clear p;obtain ⟨i,hi,rfl,hW,c⟩:=hrel;by_cases a9:i<16
   ·have n:=hW.out.set i (aQ ((b.drop (4*i)).take 4));rw[ZX b i a9]at n;have l3:=aw c.out i (.int .u32 (aQ ((b.drop (4*i)).take 4):Nat));have fi:wr.frozen? ⟨M,i,none⟩=false:=ab.frozen hW.out i;have ci:wr.cell? ⟨M,i,none⟩=some (.int .u32 ((mK b i)[i]'(by rw[ZW b i hi];exact a9):Nat)):=hW.out.cell i _;have hN:=Oq (b.drop (4*i));have AB:∀W:World,Calls prog 92 #[.string ⟨((b.drop (4*i)).take 4).toArray⟩] W λe w'=>e= .returned (.int .u64 (aQ ((b.drop (4*i)).take 4)))/\W=w':=λW=>by have:=qG W ((b.drop (4*i)).take 4) (by rw[aJ];omega);rw[ku]at this;exact this
    have u':((aQ ((b.drop (4*i)).take 4):Nat):Int)%4294967296=((aQ ((b.drop (4*i)).take 4):Nat):Int):=pm;have lb:b.length=64:=e9.out;have k1:(4*(i:Int)).toNat=4*i:=pm;have k2:(4*(i:Int)+4).toNat=4*i+4:=pm;have k3:4*i+4<=b.length:=pm;have k4:4*(i:Int)+4<=(b.length:Int):=pm;have r4:=Hq n;have o5:=Hq l3;clear n l3 hW c lb;generalize aQ ((b.drop (4*i)).take 4)=N at*;go_wp2_with fail;refine (AB _).mono ?_;rintro e w1 ⟨rfl,rfl⟩;go_wp2;go_roundw
    case rel=>exact ⟨i+1,pm,by go_num,r4,o5⟩
    case measure=>simp[intOf];omega
   obtain rfl:i=16:=pm;have j4:HB wr M 334 (mM b 16):=by have:=hW.out;rw[ZV]at this;exact this
   have p:=Hq j4;have l:=Hq (ab.kept l.out c.out pp);have j:=Hq (ab.kept j.out c.out pp);have k:=Hq (ab.kept k.out c.out pp);have c9:=Hq (cJ o6.out c.out (by have:=b1.out;omega));have h7:=Hq (SU b 16);clear j4 hW c r2 a9;have g9:(prog.info? 346).map (·.size)=some wv.length:=qr;have g':(prog.info? 346).map (·.size)=some wv.toArray.size:=qr;have h3:wv.toArray.all (·.oneCell')=true:=qr;have e3:zP.length=wv.length:=qr;have e4:zP.length=wv.toArray.size:=qr;have h1:=λ(W:World) (i:Nat) (h:i<8)=>M8 W i h;obtain ⟨pc,h2⟩:=kq wv;obtain ⟨zp,h6⟩:=kq zP;rw[<-h2]at g9 g' h1 h3 e3 e4;rw[<-h6]at e3 e4;obtain ⟨P,hP⟩:=kq wr.heap.size;have bz:ab (wr.alloc (.cells zp.toArray 346)) P 346 zp:=by rw[hP];exact aO _ _
   have n3:=bz.there _ e4;have bP:=bz.store pc e3.symm;have gP:wr.grownBy ((wr.alloc (.cells zp.toArray 346)).setCells P 0 pc) none:=uu (aF (ak wr none) _) P pm _ _;obtain ⟨y2,h5⟩:=kq ((wr.alloc (.cells zp.toArray 346)).setCells P 0 pc);rw[<-h5]at bP gP;have q8:=Hq h2;have r9:=Hq h6;have r0:=Hq hP;have r8:=Hq h5;have r5:=Hq n3;have o7:=Hq g';have q':=Hq h3;have o9:=Hq g9;have p':=Hq h1;obtain ⟨q0,m4⟩:∃q,q=uG 0:=⟨_,rfl⟩;have Q0:=Hq m4;clear m4;obtain ⟨q1,m5⟩:∃q,q=uG 1:=⟨_,rfl⟩;have Q1:=Hq m5;clear m5;obtain ⟨q2,m6⟩:∃q,q=uG 2:=⟨_,rfl⟩;have Q2:=Hq m6;clear m6;obtain ⟨q3,m7⟩:∃q,q=uG 3:=⟨_,rfl⟩;have Q3:=Hq m7;clear m7;obtain ⟨q4,m8⟩:∃q,q=uG 4:=⟨_,rfl⟩;have Q4:=Hq m8;clear m8;obtain ⟨q5,m9⟩:∃q,q=uG 5:=⟨_,rfl⟩;have Q5:=Hq m9;clear m9;obtain ⟨q6,m'⟩:∃q,q=uG 6:=⟨_,rfl⟩;have Q6:=Hq m';clear m';obtain ⟨q7,n0⟩:∃q,q=uG 7:=⟨_,rfl⟩;have Q7:=Hq n0;clear n0;clear g9 g' h1 h3 e3 e4 bz n3 h2 h6 h5;go_upto_region 15with(fail);refine oB ?_;refine Go.Great.wpList_readTo rfl _ rfl (.agg q0) ?_ ?_
   ·rw[Q0.out];kernel_rfl
   refine Go.Great.wpList_readTo rfl _ rfl (.agg q1) ?_ ?_
   ·rw[Q1.out];kernel_rfl
   refine Go.Great.wpList_readTo rfl _ rfl (.agg q2) ?_ ?_
   ·rw[Q2.out];kernel_rfl
   refine Go.Great.wpList_readTo rfl _ rfl (.agg q3) ?_ ?_
   ·rw[Q3.out];kernel_rfl
   refine Go.Great.wpList_readTo rfl _ rfl (.agg q4) ?_ ?_
   ·rw[Q4.out];kernel_rfl
   refine Go.Great.wpList_readTo rfl _ rfl (.agg q5) ?_ ?_
   ·rw[Q5.out];kernel_rfl
   refine Go.Great.wpList_readTo rfl _ rfl (.agg q6) ?_ ?_
   ·rw[Q6.out];kernel_rfl
   refine Go.Great.wpList_readTo rfl _ rfl (.agg q7) ?_ ?_
   ·rw[Q7.out];kernel_rfl
   refine Go.Great.wpList_readTo rfl _ rfl (.agg pc.toArray) ?_ ?_
   ·rw[q8.out,Q0.out,Q1.out,Q2.out,Q3.out,Q4.out,Q5.out,Q6.out,Q7.out];kernel_rfl
   refine Go.Great.wpList_allocTo rfl _ rfl (.pointer (some ⟨P,0,none⟩)) (.cells zp.toArray 346) ?_ ?_
   ·rw[r9.out,r0.out];kernel_rfl
   refine wpList_store_mid rfl 346 _ _ rfl P 0 pc.toArray (by simp[Act.eval,Act.put]) (by simp[Act.eval,Act.put]) r5.out o7.out q'.out ?_;refine oD ?_;have n7:(wr.alloc (.cells zp.toArray 346)).setCells P 0 pc.toArray.toList=y2:=r8.out.symm;rw[n7];clear n7;have u9:M<P:=by rw[hP];exact ab.lt p.out
   have p:=Hq (ab.kept p.out gP nofun);have l:=Hq (ab.kept l.out gP nofun);have j:=Hq (ab.kept j.out gP nofun);have k:=Hq (ab.kept k.out gP nofun);have c9:=Hq (ai c9.out gP);have e':=Hq bP;clear hP bP gP;go_wp2_with fail;refine ax (Vi _) λy3 b4=>?_;have p:=Hq (ab.kept p.out b4 nofun);have l:=Hq (ab.kept l.out b4 nofun);have j:=Hq (ab.kept j.out b4 nofun);have k:=Hq (ab.kept k.out b4 nofun);have e':=Hq (ab.kept e'.out b4 nofun);have c9:=Hq (ai c9.out b4);have h0:=λ(W:World) (r:Nat) (h:r<10)=>ZO W r h;obtain ⟨lc,l9⟩:=kq pf;rw[<-l9]at h0⊢;have o':=Hq h0;clear b4 h0 l9;obtain ⟨m,d6⟩:=kq (mM b 16);have lm:m.length=16:=by rw[d6];exact CC _ _
   rw[<-d6]at p h7;have p7:=Hq d6;have i6:=Hq lm;clear d6 lm;go_wp2_with fail;go_loopw [69] (λi1 wr=>∃r:Nat,r<=10/\i1= .int .i64 r/\Hid (HB wr (B+1+1) 344 (re m V0 r))/\Hid (y3.grownBy wr (some (B+1+1)))) (λi1 _=>10-(intOf i1).toNat)
   case atStart=>exact ⟨0,pm,rfl,l,Hq (ak _ _)⟩
   case round=>
    clear l;obtain ⟨r,hr,rfl,d,c⟩:=hrel;by_cases a9:r<10
    ·have ix:=λW=>o'.out W r a9;have lR:=ZP r a9;have sR:=ZQ r a9;obtain ⟨R,hR⟩:=kq (xJ.getD r []);rw[<-hR]at ix lR sR;have o:re m V0 (r+1)=rb m R (re m V0 r) 8:=(by rw[hR];rfl);have i9:=Hq o;have b0:=Hq (CA e6.out m r);obtain ⟨Vr,k6⟩:=kq (re m V0 r);rw[<-k6]at d i9 b0;have i7:=Hq lR;have j0:=Hq sR;obtain ⟨Lb,d0⟩:=kq wr.heap.size;have bz:ab (wr.alloc (.cells zU.toArray 224)) Lb 224 zU:=by rw[d0];exact aO _ _
     have l6:(prog.info? 224).map (·.size)=some (R.map c8).toArray.size:=by rw[qM,cY,lR];kernel_rfl
     have h4:=bz.there ((R.map c8).toArray.size) (by rw[qM,cY,lR];rfl);have f8:=bz.store (R.map c8) (by rw[cY,lR];rfl);have m3:(R.map c8).toArray.all (·.oneCell')=true:=all_oneCell_toArray (Tr R);have b6:wr.grownBy ((wr.alloc (.cells zU.toArray 224)).setCells Lb 0 (R.map c8)) none:=uu (aF (ak wr none) _) Lb pm _ _;obtain ⟨x0,d'⟩:=kq ((wr.alloc (.cells zU.toArray 224)).setCells Lb 0 (R.map c8));rw[<-d']at f8 b6;have e0:zU.toArray=qa:=rfl;rw[e0]at h4 d';have p4:=Hq d0;have r6:=Hq h4;have o8:=Hq l6;have p9:=Hq m3;have r7:=Hq d';have IX:=Hq ix;have bL:ab x0 Lb 224 (R.map c8):=f8;have u4:B+1+1<Lb:=by rw[d0];exact ab.lt d.out
     have u7:M<Lb:=by rw[d0];exact ab.lt (ab.kept p.out c.out pp)
     have e9:=Hq bL;have j1:=Hq (show HB x0 (B+1+1) 344 Vr from ab.kept d.out b6 nofun);have p6:=Hq (show HB x0 M 334 m from ab.kept (ab.kept p.out c.out pp) b6 nofun);have i':ab x0 P 346 pc:=ab.kept (ab.kept e'.out c.out pp) b6 nofun
     have o4:=Hq (show y3.grownBy x0 (some (B+1+1))from ai c.out (eo b6));have r3:=Hq i'.range;clear d0 bL d c i' b6;clear hR lR sR o k6 bz l6 h4 m3 d' e0 ix f8;have hd:decide ((r:Int)<10)=true:=pp;go_upto_region 18with(fail);refine oB ?_;refine Go.Great.wpList_readTo rfl _ rfl (.agg (R.map c8).toArray) (by have e:=IX.out;simp[execOp,Act.eval,e]) ?_;refine Go.Great.wpList_allocTo rfl _ rfl (.pointer (some ⟨Lb,0,none⟩)) (.cells qa 224) ?_ ?_
     ·rw[p4.out];kernel_rfl
     refine wpList_store_mid rfl 224 _ _ rfl Lb 0 (R.map c8).toArray (by simp[Act.eval,Act.put]) (by simp[Act.eval,Act.put]) r6.out o8.out p9.out ?_;refine oD ?_;have n5:(wr.alloc (.cells qa 224)).setCells Lb 0 (R.map c8).toArray.toList=x0:=r7.out.symm;rw[n5];clear n5;go_upto_region 19with(fail);refine oB ?_;refine wpList_load_mid rfl 346 _ rfl P 0 rfl pc _ r3.out underlying346 rfl o9.out ?_;go_wp2_with fail;go_loopw [73] (λi2 wr=>∃i:Nat,i<=8/\i2= .int .i64 i/\Hid (HB wr (B+1+1) 344 (rb m R Vr i))/\Hid (x0.grownBy wr (some (B+1+1)))) (λi2 _=>8-(intOf i2).toNat)
     case atStart=>exact ⟨0,pm,rfl,j1,Hq (ak _ _)⟩
     case round=>
      clear j1;obtain ⟨i,hi,rfl,d,c⟩:=hrel;by_cases b8:i<8
      ·have t5:=λW=>p'.out W i b8;have a8:=M9 i b8;have o:rb m R Vr (i+1)=sE ((fq.getD i []).getD 0 0) ((fq.getD i []).getD 1 0) ((fq.getD i []).getD 2 0) ((fq.getD i []).getD 3 0) (m.getD (R.getD (2*i) 0) 0) (m.getD (R.getD (2*i+1) 0) 0) (rb m R Vr i):=rfl;generalize (fq.getD i []).getD 0 0=p0 at*;generalize (fq.getD i []).getD 1 0=p1 at*;generalize (fq.getD i []).getD 2 0=p2 at*;generalize (fq.getD i []).getD 3 0=p3 at*;have q9:=Hq a8;have p8:=Hq o;have t4:decide ((i:Int)<8)=true:=pp;clear a8 o;go_upto_region 22with(fail);clear t5;obtain ⟨T4,g7⟩:=kq wr.heap.size;obtain ⟨y4,d1⟩:=kq (wr.alloc (.cells #[.int .i64 p0, .int .i64 p1, .int .i64 p2, .int .i64 p3] 345));have bT:ab y4 T4 345 [.int .i64 p0, .int .i64 p1, .int .i64 p2, .int .i64 p3]:=by rw[d1,g7];exact aO _ _
       have t0:=ab.cell bT 0;have t1:=ab.cell bT 1;have t2:=ab.cell bT 2;have t3:=ab.cell bT 3;have k':x0.grownBy y4 (some (B+1+1)):=by rw[d1];exact aF c.out _
       have k0:=Hq (show HB y4 (B+1+1) 344 (rb m R Vr i) by rw[d1];exact cG d.out);rw[<-g7,<-d1];clear g7 d1 bT d c;have d:=k0;have c:=Hq k';clear k0 k';have o:=p8.out;have a8:=q9.out;have r1:=j0.out (2*i) pm;have r2:=j0.out (2*i+1) pm;have bL:=ab.kept e9.out c.out pp;have g0:y4.cell? ⟨Lb,2*i,none⟩=some (.int .u8 (R.getD (2*i) 0:Nat)):=by rw[ab.cell bL,fQ,getD_some R (2*i) (by rw[i7.out];omega)];rfl
       have g4:y4.cell? ⟨Lb,2*i+1,none⟩=some (.int .u8 (R.getD (2*i+1) 0:Nat)):=by rw[ab.cell bL,fQ,getD_some R (2*i+1) (by rw[i7.out];omega)];rfl
       have bM:=ab.kept p6.out c.out pp;obtain ⟨l1,l7⟩:=kq (R.getD (2*i) 0);obtain ⟨l2,l8⟩:=kq (R.getD (2*i+1) 0);rw[<-l7]at r1 g0 o;rw[<-l8]at r2 g4 o;have s4:y4.cell? ⟨M,l1,none⟩=some (.int .u32 (m.getD l1 0:Nat)):=oY bM (getD_some m l1 (by rw[i6.out];omega));have s5:y4.cell? ⟨M,l2,none⟩=some (.int .u32 (m.getD l2 0:Nat)):=oY bM (getD_some m l2 (by rw[i6.out];omega));have s1:=fS h7.out l1;have s2:=fS h7.out l2;generalize m.getD l1 0=mx at*;generalize m.getD l2 0=my at*;have e5:=FO b0.out m R i;obtain ⟨Lv,j7⟩:=kq (rb m R Vr i);rw[<-j7]at d e5 o;obtain ⟨Ln,g6⟩:=kq (rb m R Vr (i+1));rw[<-g6]at o;have p5:=Hq g6;have A1:∀W:World,HB W (B+1+1) 344 Lv->Calls prog 263 #[.pointer (some ⟨B+1+1,0,none⟩), .agg #[.int .i64 p0, .int .i64 p1, .int .i64 p2, .int .i64 p3], .int .u32 mx, .int .u32 my] W (JZ (B+1+1) Ln W):=λW hW=>by rw[o];exact Vt W (B+1+1) Lv p0 p1 p2 p3 mx my hW e5.1 e5.2 a8.2 a8.1.1 a8.1.2.1 a8.1.2.2.1 a8.1.2.2.2 s1 s2
       obtain ⟨a1,u1,n8⟩:∃a:Nat,2*(i:Int)=(a:Int)/\2*i=a:=⟨2*i,pm,rfl⟩;obtain ⟨a2,u2,n9⟩:∃a:Nat,(a1:Int)+1=(a:Int)/\2*i+1=a:=⟨2*i+1,pm,rfl⟩;rw[n8]at g0;rw[n9]at g4;have v3:(a1:Int)<16:=pm;have v4:(a2:Int)<16:=pm;have v8:IntKind.i64.wrap (a1:Int)=(a1:Int):=dG _ pm;have v9:IntKind.i64.wrap (a2:Int)=(a2:Int):=dG _ pm;have v6:(l1:Int)<16:=pm;have v7:(l2:Int)<16:=pm;have o0:=Hq A1;have j2:=d;clear o a8 r1 r2 bL bM l7 l8 e5 j7 g6 n8 n9 A1 d;go_still_tail 14,qr;change wpList _ _ _ _ _ y4.drew;go_wp2_with fail;refine (o0.out _ (Hs j2.out)).mono ?_;rintro e x5 ⟨rfl,k5,l0⟩;have H5:=Hq k5;have G5:=Hq (ai (aM c.out) l0);clear t0 t1 t2 t3 k5 l0 g0 g4 s4 s5 c j2;go_wp2;go_roundw
       case rel=>exact ⟨i+1,pm,by go_num,by have:=p5.out;rw[<-this];exact H5,G5⟩
       case measure=>simp[intOf];omega
      obtain rfl:i=8:=pm;go_wp2;go_roundw
      case rel=>exact ⟨r+1,pm,by go_num,by have:=i9.out;rw[this];exact d,Hq (ai o4.out c.out)⟩
      case measure=>simp[intOf];omega
    obtain rfl:r=10:=pm;clear a9;obtain ⟨V,g8⟩:=kq (re m V0 10);have b0:=Hq (CA e6.out m 10);rw[<-g8]at d b0;have k9:=(o1.out V m p7.out g8).trans (acP h V t.out).symm;have o3:=Hq k9;have u:=ab.kept j.out c.out pp;have f:=ab.kept k.out c.out pu;have j:=Hq (show HB wr B 289 (pF h V 0)from u);have k:=Hq f;have l:=d;have i5:=Hq (cJ c9.out c.out (by have:=b1.out;omega));clear g8 k9 u f d c;go_wp2_with fail;go_loopw [94] (λi3 wr=>∃i:Nat,i<=8/\i3= .int .i64 i/\Hid (HB wr B 289 (pF h V i))/\Hid (HB wr (B+1+1) 344 V)/\Hid (HB wr (B+1) 289 [0,0,0,0,0,0,0,0])/\Hid (w.grownBy wr none)) (λi3 _=>8-(intOf i3).toNat)
    case atStart=>exact ⟨0,pm,rfl,j,l,k,i5⟩
    case round=>
     clear j l k i5;obtain ⟨i,hi,rfl,hH,d,hR,c⟩:=hrel;by_cases b8:i<8
     ·have cv:wr.cell? ⟨B+1+1,i,none⟩=some (.int .u32 (V.getD i 0:Nat)):=oY d.out (getD_some V i (by rw[b0.out.1];omega));have s6:wr.cell? ⟨B+1+1,i+8,none⟩=some (.int .u32 (V.getD (i+8) 0:Nat)):=oY d.out (getD_some V (i+8) (by rw[b0.out.1];omega));have cs:wr.cell? ⟨B,i,none⟩=some (.int .u32 (h.getD i 0:Nat)):=oY hH.out (acQ h V t.out i b8);have hf:wr.frozen? ⟨B,i,none⟩=false:=ab.frozen hH.out i;obtain ⟨n1,J,l1⟩:=pj (V.getD i 0) (V.getD (i+8) 0) (fS b0.out.2 _) (fS b0.out.2 _);obtain ⟨n2,e2,l2⟩:=pj (h.getD i 0) n1 (fS HS.out _) l1;have n:=hH.out.set i n2;rw[<-e2.1,<-J.1,acS h V t.out i b8,J.1,e2.1]at n;have g5:=aw (ak wr (some B)) i (.int .u32 n2);have j':=Hq (show HB (wr.setCell ⟨B,i,none⟩ (.int .u32 n2)) (B+1+1) 344 V from ab.kept d.out g5 pp);have j8:=Hq (show HB (wr.setCell ⟨B,i,none⟩ (.int .u32 n2)) (B+1) 289 [0,0,0,0,0,0,0,0]from ab.kept hR.out g5 pu);have i4:=Hq (cj c.out ⟨B,i,none⟩ (by have:=b1.out;simp;omega) (.int .u32 n2));have b5:=Hq n;obtain ⟨-,J⟩:=J;obtain ⟨-,e2⟩:=e2;obtain ⟨i8,u3,n'⟩:∃a:Nat,(i:Int)+8=(a:Int)/\i+8=a:=⟨i+8,pm,rfl⟩;rw[n']at s6 J;have v5:(i8:Int)<16:=pm;have wi:IntKind.i64.wrap (i8:Int)=(i8:Int):=dG _ pm;have t4:decide ((i:Int)<8)=true:=pp;have ii:(i:Int)<16:=pm;have ij:(i:Int)<8:=pm;generalize V.getD i 0=xa at*;generalize V.getD i8 0=xb at*
      generalize h.getD i 0=xc at*;clear n g5 hH d hR c n';go_wp2_with fail;go_still_tail 13,qr;change wpList _ _ _ _ _ wr.drew;go_wp2;go_roundw
      case rel=>first|exact ⟨i+1,pm,by go_num,b5,j',j8,Hq (aM i4.out)⟩|exact ⟨_,_,_,_,_,_,_,_,_,_,_,_,_,_,_,_,_,_,⟨i+1,pm,by go_num,b5,j',j8,Hq (aM i4.out)⟩,rfl⟩
      case measure=>simp[intOf];omega
     obtain rfl:i=8:=pm;clear b8;have lS:=acR h V t.out 8 hi;have bS:=hH.out;have f:=hR.out;generalize pF h V 8=S' at*;obtain ⟨a0,a1,a2,a3,a4,a5,a6,a7,es⟩:=eight lS;rw[es]at bS;obtain ⟨c0,c1,c2,c3,c4,c5,c6,c7⟩:=bS.eight;obtain ⟨z0,z1,z2,z3,z4,z5,z6,z7⟩:=HB.eight f;have f0:=ab.frozen f 0;have f1:=ab.frozen f 1;have f2:=ab.frozen f 2;have f3:=ab.frozen f 3;have f4:=ab.frozen f 4;have f5:=ab.frozen f 5;have f6:=ab.frozen f 6;have f7:=ab.frozen f 7;have o2:=Hq es;have e0:=Hq (show w.heap.size<=B+1 by have:=b1.out;omega);clear es lS bS f hH hR d;go_wp2_with fail;refine bodyPost_ret (v:= .agg #[.int .u32 a0, .int .u32 a1, .int .u32 a2, .int .u32 a3, .int .u32 a4, .int .u32 a5, .int .u32 a6, .int .u32 a7]) (by simp[results,results210,go_sem,z0,z1,z2,z3,z4,z5,z6,z7]) rfl ?_;refine ⟨by have e:=o3.out;rw[e,o2.out];rfl,?_⟩;have g:=e0.out;exact cj (cj (cj (cj (cj (cj (cj (cj c.out _ g _) _ g _) _ g _) _ g _) _ g _) _ g _) _ g _) _ g _
end
end Go.Proofs.YtmomfbkpniblgaaGreatDoor
