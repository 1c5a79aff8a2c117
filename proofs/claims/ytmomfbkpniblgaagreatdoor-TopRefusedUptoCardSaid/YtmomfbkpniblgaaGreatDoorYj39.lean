/- A part of this claim's proof. -/
import Derived.BigRegion
import Derived.Test.YtmomfbkpniblgaaGreatDoorYj38
set_option linter.all false
set_option maxHeartbeats 16000000
set_option maxRecDepth 20000
namespace Go.Proofs.YtmomfbkpniblgaaGreatDoor
open Go.Proofs.Tryz
section
open Go.RowKit Top
def UG x (r:Nat)(own l:af)(f:Nat) v (c:List (di×Nat))(hP:pU x v c)(h0:r≠0)(hh:r<4294967296)(h1:own.length=32)(h2:l.length=32)(n:f=1\/f=2)(R:∀z∈c,Fo z.1)(hn:c.length<=8):
 Calls prog 39 #[.int .u32 r,S own,S l, .int .i64 f,v] x (RF x r own l f (c.map Prod.fst)):=by
 have q0:((r:Int)==0)=false:=by rw[dC];omega
 have q1:((own.length:Int) !=32)=false:=by rw[h1];rfl
 have q2:((l.length:Int) !=32)=false:=by rw[h2];rfl
 have q3:((f:Int) !=1)=true->((f:Int) !=2)=false:=by rcases n with rfl|rfl<;>decide
 obtain ⟨a,o4,f9⟩:=gj hP.row;obtain ⟨L,hL⟩:=kq c.length;rw[<-hL]at f9 hn;have q4:decide ((8:Int)<(L:Int))=false:=pp
 have AP:∀W:World,Calls prog 38 #[S own] W (Grown (.tuple #[S (cS own eB), .int .i64 0]) W):=λW=>xP W own h1;have AT:=λW:World=>Wc W;have AB:=λW:World=>Ua W;have HP:=Hq hP;have HL:=Hq hL;have HZ:=Hq R;obtain ⟨ag,f8⟩:=kq (cS own eB);rw[<-f8]at AP;have e0:=Hq f8;have o3:=Hq f9;subst f9;have m':((f:Int) !=1)=false\/(((f:Int) !=1)=true/\((f:Int) !=2)=false):=by rcases n with rfl|rfl<;>decide
 have HB:=Hq n;have l8:=Hq h2;clear hP hL R f8 h1 h2 n q3;unfold S;rcases m' with a8|⟨a8,J⟩;all_goals
  unfold S at AP;go_enter func39,ntmps39;go_wp2_with fail;refine ax (AP _) λy0 i4=>?_;have d7:=Hq i4;clear AP i4;go_wp2_with fail;refine (AT _).mono ?_;rintro e y1 ⟨rfl,j8,i5⟩;have e4:=Hq (abN (λj=>(((c.map Prod.fst)[j]?).map di.addr).getD 0) j8 (B0:=x.heap.size) d7.out.size);obtain ⟨tb,f'⟩:=kq y0.heap.size;rw[<-f']at e4⊢;have b9:=Hq (ai d7.out i5);have n8:x.heap.size<=tb:=by rw[f'];exact d7.out.size
  clear j8 i5 AT f';go_wp2_with fail;refine (AB _).mono ?_;rintro e y2 ⟨bk,rfl,⟨mp,h9,i9,i0⟩,c6⟩;have b':=Hq (ai b9.out c6);have c4:=Hq (Xc r own l ag e0.out f (c.map Prod.fst) (e4.out.new c6) i0);have l':=Hq (e4.out.new c6);have o1:=Hq b9.out.size;have HM:=Hq (show x.heap.size<=bk/\x.heap.size<=mp from⟨bJ b9.out.size h9,bJ b9.out.size i9⟩);clear c6 AB i0 h9 i9;unfold S ptr at c4;go_wp2_with fail;obtain ⟨y3,g0⟩:=kq (y2.alloc (.cells #[.int .u32 r, .string ⟨own.toArray⟩, .string ⟨ag.toArray⟩, .string ⟨l.toArray⟩, .int .i64 f, .int .u64 0, .string ⟨#[]⟩, .int .u32 0, .int .i64 0, .int .i64 0, .bool false, .slice none 0 0, .pointer (some ⟨tb,0,none⟩), .pointer (some ⟨bk,0,none⟩), .slice none 0 0, .slice none 0 0] 102));have f2:y2.grownBy y3 none:=by rw[g0];exact aF (ak _ _) _
  obtain ⟨D,hD⟩:=kq y2.heap.size;have h7:x.heap.size<=D:=by rw[hD];exact b'.out.size
  rw[<-hD]at c4;rw[<-g0]at c4⊢;rw[<-hD];have l2:=Hq (ai b'.out f2);have m0:=Hq (l'.out.new f2);have l1:Hid (∀b∈eA ⟨D, .slice none 0 0,tb,bk,mp, .slice none 0 0, .slice none 0 0⟩ [],x.heap.size<=b):=Hq (λb n=>by
   simp only[eA,DA.fp,Value.ownBlock,Option.toList,ev,List.flatMap_nil,bp,dD,dH]at n;rcases n with e|e|e<;>rw[e]
   ·exact h7
   ·exact HM.out.1
   exact HM.out.2)
  clear g0 f2 hD h7 n8;go_loopw [61] (λg1 wr=>∃m:Nat,m<=L/\g1= .int .i64 m/\Hid (∀j,j<m->¬JL own (c.map Prod.fst) j)/\∃A u,Hid (A.dev=D/\A.tb=tb)/\Hid (bX wr A u (iM r own l f (c.map Prod.fst) m))/\Hid (TB x.heap.size wr tb (fU (λj=>(((c.map Prod.fst)[j]?).map di.addr).getD 0) m))/\Hid (x.grownBy wr none)/\Hid (∀b∈eA A u,x.heap.size<=b)/\Hid (∀b∈A.aI.ownBlock.toList,x.heap.size<=b)) (λg1 _=>L-(intOf g1).toNat)
  case atStart=>exact ⟨0,pm,rfl,Hq (λj hj=>pm),_,[],Hq ⟨rfl,rfl⟩,c4,m0,l2,l1,Hq (by simp[Value.ownBlock])⟩
  case round=>
   obtain ⟨m,hm,rfl,i',A,u,C,b4,n9,b6,f1,n7⟩:=hrel;by_cases n2:m<L
   ·have f7:m<c.length:=by rw[<-HL.out];exact n2
    have hd:decide ((m:Int)<(L:Int))=true:=pp;obtain ⟨z,R⟩:∃z,c[m]?=some z:=⟨c[m],aW f7⟩;have a9:=HZ.out z (dc R);have b8:(c.map Prod.fst)[m]?=some z.1:=(by rw[fQ,R];rfl);have b3:=HP.out.new b6.out;obtain ⟨g,o,cp,e1,c0,c1,c2,c3⟩:=J0 b3 R;injection e1 with e1 e2 e3;subst e1;clear e2 e3;have b7:=b3.path z (dc R);have o2:=Hq b7;have c8:mB (c.map Prod.fst) m=(iM r own l f (c.map Prod.fst) m).aI:=rfl;have c7:(iM r own l f (c.map Prod.fst) m).aI.length<=8:=by rw[<-c8,DX _ _ (by rw[cY];omega)];omega
    have gw:wr.grownBy (wr.alloc (.cells #[S z.1.ag,S z.1.aD, .int .u32 z.1.at_, .slice (some ⟨z.2,0,none⟩) 1 1] 91)) none:=aF (ak _ _) _;have AK:=LF _ A u _ (b4.out.new gw) c7 z.1.ag;rw[C.out.1]at AK;have c5:=Hq b8;have g8:=Hq a9;have r1:((z.1.ag.length:Int) !=32)=false:=(by rw[a9.ag];rfl);have r2:((z.1.aD.length:Int) !=32)=false:=(by rw[a9.aD];rfl);have GW:=Hq gw;unfold S ptr at*;rcases heq:z.1.ag==ag with _|_
    ·have n0:(z.1.ag.toArray==ag.toArray)=false:=by rw[dC]at heq⊢;exact λe=>heq (by simpa using e)
     cases hkn:known (iM r own l f (c.map Prod.fst) m).aI z.1.ag with
     |some j=>
      obtain ⟨j',b,hj,a8,J⟩:=Zm hkn;have d':Hid (¬xB own (c.map Prod.fst)):=Hq (λh=>h m (by rw[cY];exact f7) ⟨z.1,c5.out,Or.inr ⟨j',b,hj,a8,J⟩⟩);obtain ⟨P,hP⟩:∃P,u[j]?=some P:=by
       have h1:j<(iM r own l f (c.map Prod.fst) m).aI.length:=by unfold known at hkn;rw[Bi]at hkn;exact hkn.1
       exact ⟨u[j]'(by rw[b4.out.len];exact h1),aW _⟩
      rw[hkn,yp hP]at AK;clear b8 a9 b7 b3 c8 c7 gw R hkn hP a8 J hj;go_wp2_with fail;refine AK.mono ?_;rintro e y ⟨rfl,rfl⟩;go_wp2;go_ret2;exact ⟨λh=>absurd h d'.out,λ_=>⟨rfl,ai b6.out GW.out⟩⟩
     |none=>
      have j0:¬JL own (c.map Prod.fst) m:=by
       rintro ⟨a',h8,n4⟩;rw[b8]at h8;obtain rfl:=aH h8;rcases n4 with e|⟨j,b,hj,a8,J⟩
       ·rw[<-e0.out]at e;simp[e]at heq
       exact Zn hkn (J' _ _ _ _ hj a8) J
      have l6:=Hq j0;rw[hkn,yo]at AK;obtain ⟨w1,a2⟩:=kq (wr.alloc (.cells #[.string ⟨z.1.ag.toArray⟩, .string ⟨z.1.aD.toArray⟩, .int .u32 z.1.at_, .slice (some ⟨z.2,0,none⟩) 1 1] 91));have m3:=Hq a2;obtain ⟨B,hB⟩:=kq wr.heap.size;have k4:=Hq hB;have h6:ab w1 B 91 [.string ⟨z.1.ag.toArray⟩, .string ⟨z.1.aD.toArray⟩, .int .u32 z.1.at_, .slice (some ⟨z.2,0,none⟩) 1 1]:=by rw[a2,hB];exact aO wr _
      have k7:=Hq h6;have i7:x.grownBy w1 none:=by rw[a2];exact ai b6.out gw
      have l4:=Hq i7;have j1:ab w1 z.2 88 [.int .u32 z.1.addr, .int .i64 24]:=by rw[a2];exact b7.kept gw pu
      have g6:=Hq j1;have i2:bX w1 A u (iM r own l f (c.map Prod.fst) m):=by rw[a2];exact b4.out.new gw
      have g3:=Hq i2;have j5:TB x.heap.size w1 tb (fU (λj=>(((c.map Prod.fst)[j]?).map di.addr).getD 0) m):=by rw[a2];exact n9.out.new gw
      have l9:=Hq j5;clear b8 a9 b7 b3 c8 c7 gw R hkn j0 a2 hB h6 i7 j1 i2 j5;go_wp2_with fail;refine AK.mono ?_;rintro e y ⟨rfl,rfl⟩;clear AK;go_wp2_with fail;rw[<-m3.out];try rw[<-k4.out]
      clear c0 c1 c2 c3;go_loopw [90] (λd5 wr=>(d5= .int .i64 0/\Hid (wr=w1))\/(d5= .int .i64 1/\Hid (bX wr A u ⟨{(iM r own l f (c.map Prod.fst) m).dv with fB:=rK (fU (λj=>(((c.map Prod.fst)[j]?).map di.addr).getD 0) (m+1))},(iM r own l f (c.map Prod.fst) m).aI⟩)/\Hid (TB x.heap.size wr tb (fU (λj=>(((c.map Prod.fst)[j]?).map di.addr).getD 0) (m+1)))/\Hid (x.grownBy wr none)/\Hid (ab wr B 91 [.string ⟨z.1.ag.toArray⟩, .string ⟨z.1.aD.toArray⟩, .int .u32 z.1.at_, .slice (some ⟨z.2,0,none⟩) 1 1]))) (λd5 _=>1-(intOf d5).toNat)
      case atStart=>exact Or.inl ⟨rfl,Hq rfl⟩
      case round=>
       rcases hrel with⟨rfl,k2⟩|⟨rfl,b5,j7,i6,i1⟩
       ·rw[k2.out];clear k2;have p0:=ab.cell g6.out 0;have p1:=ab.cell g6.out 1;simp only[ov,pI]at p0 p1;obtain ⟨w2,d0⟩:=kq (w1.alloc (.cells #[.int .u32 z.1.addr, .int .i64 24] 88));obtain ⟨B2,e'⟩:=kq w1.heap.size;have g2:w1.grownBy w2 none:=by rw[d0];exact aF (ak _ _) _
        have gd:w2.grownBy w2.drew none:=aM (ak _ _);have J:ab w2 B2 88 [.int .u32 z.1.addr, .int .i64 24]:=by rw[d0,e'];exact aO w1 _
        have h':=J.kept gd pu;have k0:=ab.cell J 0;have k1:=ab.cell J 1;simp only[ov,pI]at k0 k1;obtain ⟨_,kt,_,_⟩:=(g3.out.new g2).cell C.out.1 C.out.2;have f0:=(g3.out.new g2).new gd;have j4:wG (fU (λj=>(((c.map Prod.fst)[j]?).map di.addr).getD 0) m) z.1.addr 24 (m:Int)=(0,fU (λj=>(((c.map Prod.fst)[j]?).map di.addr).getD 0) (m+1)):=by have e:(((c.map Prod.fst)[m]?).map di.addr).getD 0=z.1.addr:=(by rw[c5.out];rfl);have q:=aaZ (λj=>(((c.map Prod.fst)[j]?).map di.addr).getD 0) m pm (by rw[e];exact g8.out.low);rw[e]at q;exact q
        have AS:=Wd w2.drew x.heap.size tb _ ((l9.out.new g2).new gd) z.1.addr g8.out.addr 24 (m:Int) ut (wf_i64 pm);rw[j4]at AS;have SC:∀y:World,GT x.heap.size w2.drew y->y.cell? ⟨D,12,none⟩=some (ptr tb)/\y.cell? ⟨B2,0,none⟩=some (.int .u32 z.1.addr)/\y.cell? ⟨B2,1,none⟩=some (.int .i64 24):=λy g=>by have e:=f0.dv.dv.gt g ut;have e2:=h'.gt g ut;refine ⟨?_,ab.cell e2 0,ab.cell e2 1⟩;have e3:=ab.cell e 12;rw[C.out.1]at e3;exact e3.trans (by show some (ptr A.tb)=_;rw[C.out.2])
        have k':=Hq f0;have k5:=Hq (((k7.out.kept g2 pu).kept gd pu));have b':=Hq (ai l4.out (ai g2 gd));clear g2 gd J h' f0 j4;unfold ptr at SC kt;have m4:=Hq d0;have k9:=Hq e';clear d0 e';go_wp2_with fail;rw[<-m4.out,<-k9.out];clear p0 p1;go_region_held3 (λW=>W.cell? ⟨D,12,none⟩=some (.pointer (some ⟨tb,0,none⟩))/\W.cell? ⟨B2,0,none⟩=some (.int .u32 z.1.addr)/\W.cell? ⟨B2,1,none⟩=some (.int .i64 24)) (first|exact ⟨kt,k0,k1⟩|exact hS) (first
         |(go_at_call 66;(with_reducible refine AS.mono ?_);rintro e y ⟨rfl,j9,f3⟩;have hS:=SC y f3))
        all_goals
         have g7:=Hq j9;have d8:=Hq f3;clear j9 f3 AS SC hS kt k0 k1;go_wp2;go_roundw
         case rel=>exact Or.inr ⟨by go_num,Hq (Xd k'.out (by rw[C.out.2];exact g7.out) d8.out),g7,Hq (XW b'.out d8.out),Hq (k5.out.gt d8.out ut)⟩
         case measure=>simp[intOf]
       have g4:=b5;have m2:=j7;have l3:=i6;have k8:=i1;have b0:=Hq C.out.1;have d6:=Hq C.out.2;have l0:=f1;have l7:=n7;obtain ⟨U,pc,c9⟩:=gj b5.out.row;have f5:u.length=m:=by rw[b5.out.len];show(mB (c.map Prod.fst) m).length=m;exact DX _ _ (by rw[cY];omega)
       rw[f5]at c9;have a1:=Hq c9;have d9:=Hq f5;have a0:Hid (∀b∈(Value.slice U m pc).ownBlock.toList,b<wr.heap.size):=Hq (λb n=>(b5.out.row.kind b (by rw[c9];simpa using n)).2);clear c9 f5 b5 j7 i6 i1;go_wp2_with fail
       have a3:eF 20 17 1002 (λa b=>aC a b (Value.slice U m pc).ownBlock.toList) (λ_ _ y=>bX y A u ⟨{(iM r own l f (c.map Prod.fst) m).dv with fB:=rK (fU (λj=>(((c.map Prod.fst)[j]?).map di.addr).getD 0) (m+1))},(iM r own l f (c.map Prod.fst) m).aI⟩/\ab y B 91 [.string ⟨z.1.ag.toArray⟩, .string ⟨z.1.aD.toArray⟩, .int .u32 z.1.at_, .slice (some ⟨z.2,0,none⟩) 1 1]) [(13,λp zz=>(pX wr.heap.size) p.v zz),(14,λp zz=>(pW D wr.heap.size (mA m z.1)) p.v zz),(15,λp zz=>(sA D wr.heap.size (mA m z.1)) p.v zz),(16,λp zz=>(sB D wr.heap.size (mA m z.1)) p.v zz),(17,λp zz=>(vI D wr.heap.size m (.slice U m pc) (u.map λP=>ptr P.pe) (mA m z.1)) p.v zz)]:=⟨λx y g=>aC.new g _,λx y z g k=>g.trans k (λi hi=>Or.inl hi),λ_ _ x y h g=>⟨h.1.new g,h.2.kept g pu⟩,⟨λ_ s a b h g=>(pX.mono (c1:=True) a0.out).1 s.v a b h g,λ_ s a b h g=>(pW.mono (c1:=True) a0.out).1 s.v a b h g,λ_ s a b h g=>(sA.mono (c1:=True) a0.out).1 s.v a b h g,λ_ s a b h g=>(sB.mono (c1:=True) a0.out).1 s.v a b h g,λ_ s a b h g=>(vI.mono) s.v a b h g,True.intro⟩,λ_=>⟨λ_ s a b h g=>(pX.mono (c1:=True) a0.out).2 True.intro s.v a b h g,λ_ s a b h g=>(pW.mono (c1:=True) a0.out).2 True.intro s.v a b h g,λ_ s a b h g=>(sA.mono (c1:=True) a0.out).2 True.intro s.v a b h g,λ_ s a b h g=>(sB.mono (c1:=True) a0.out).2 True.intro s.v a b h g,λe=>absurd rfl e,True.intro⟩,λe=>absurd e ut,qr⟩
       apply gT a3 qr qr (⟨g4.out,k8.out⟩);intro u0;iterate 13 (apply aX;rfl;(intro b1 b2 d a4 a5 a6 a7 t I w;first|(go_simp;exact aq)|(have o0:d.cell? ⟨D,11,none⟩=some (.slice U m pc):=((w.1.cell b0.out rfl).1.trans (by rw[a1.out]));have n':=ab.cell w.2;go_simp;exact aq));simp only[aA])
       apply jy a3 (λp=>p.v) 0 rfl ut
       ·intro b1 b2 d a4 a5 a6 a7 t I w
        go_simp
        refine (abx d).mono ?_;rintro e y ⟨rfl,t1,t2⟩;exact gp ⟨0,_⟩ t2 ⟨_,rfl,t1,I.size⟩
       simp only[aA];apply jy a3 (λp=>p.v) 1 rfl ut
       ·intro b1 b2 d a4 a5 a6 a7 t I w;have e5:=t.at (k:=0) (j:=13) rfl qr;generalize (u0 13).v=d1 at*;obtain ⟨tm,g',t1,t2⟩:pX wr.heap.size d1 d:=e5;have g':d1= .pointer (some ⟨tm,0,none⟩):=g';subst d1
        go_simp
        exact gp ⟨0,_⟩ (ak _ _) ⟨⟨0,tm, .slice none 0 0,none,none,none,none⟩,rfl,t1,t2,rfl,rfl,rfl,rfl,rfl⟩
       simp only[aA];apply jy a3 (λp=>p.v) 2 rfl ut
       ·intro b1 b2 d a4 a5 a6 a7 t I w;have e6:=t.at (k:=1) (j:=14) rfl qr;generalize (u0 14).v=d2 at*;obtain ⟨⟨o6,tm,wt,bg,od,ss,nx⟩,h3,t1,t2,t3,t4,t5,t6,t7⟩:pW D wr.heap.size (mA m z.1) d2 d:=e6;obtain rfl:wt= .slice none 0 0:=t3;obtain rfl:bg=none:=t4;obtain rfl:od=none:=t5;obtain rfl:ss=none:=t6;obtain rfl:nx=none:=t7;have h3:d2= .agg #[.pointer (some ⟨D,0,none⟩), .pointer (some ⟨tm,0,none⟩), .int .i64 m, .string ⟨z.1.ag.toArray⟩, .string ⟨z.1.aD.toArray⟩, .int .u32 z.1.at_, .int .i64 1, .int .i64 1, .bool false, .int .i64 0, .int .i64 0, .string ⟨#[]⟩, .int .i64 0, .slice none 0 0, .pointer none, .int .u32 0, .string ⟨#[]⟩, .pointer none, .pointer none, .pointer none]:=h3;subst d2
        go_simp
        have gz:d.grownBy (d.alloc (.cells #[.pointer (some ⟨D,0,none⟩), .pointer (some ⟨tm,0,none⟩), .int .i64 m, .string ⟨z.1.ag.toArray⟩, .string ⟨z.1.aD.toArray⟩, .int .u32 z.1.at_, .int .i64 1, .int .i64 1, .bool false, .int .i64 0, .int .i64 0, .string ⟨#[]⟩, .int .i64 0, .slice none 0 0, .pointer none, .int .u32 0, .string ⟨#[]⟩, .pointer none, .pointer none, .pointer none] 123)) none:=aT _ _ _;refine gp ⟨0,_⟩ gz ⟨⟨d.heap.size,tm, .slice none 0 0,none,none,none,none⟩,rfl,⟨⟨aO d _,t1.only (aC.new gz []) pu,nX _ _ _,trivial,trivial,trivial,trivial,λb n=>(by simp[dX]at n),λb n=>(by simp[dX]at n),λb n=>(by simp[dX]at n)⟩,I.size,t2,λb n=>?_⟩⟩;simpa[PA.fp,dX,Value.ownBlock]using n
       simp only[aA];apply jy a3 (λp=>p.v) 3 rfl ut
       ·intro b1 b2 d a4 a5 a6 a7 t I w;have e7:=t.at (k:=2) (j:=15) rfl qr;generalize (u0 15).v=d3 at*;obtain ⟨P,h4,t1⟩:sA D wr.heap.size (mA m z.1) d3 d:=e7;have h4:d3= .pointer (some ⟨P.pe,0,none⟩):=h4;subst d3
        go_simp
        have gz:d.grownBy (d.alloc (.cells #[.pointer (some ⟨P.pe,0,none⟩)] 113)) none:=aT _ _ _;exact gp ⟨0,_⟩ gz ⟨d.heap.size,P,rfl,aO d _,I.size,t1.new gz⟩
       simp only[aA];apply Av a3 (λp=>p.v) 4 rfl ut
       ·intro b1 b2 d a4 a5 a6 a7 t I w;have e8:=t.at (k:=3) (j:=16) rfl qr;generalize (u0 16).v=d4 at*;obtain ⟨sb,P,h5,t1,t2,t3⟩:sB D wr.heap.size (mA m z.1) d4 d:=e8;have h5:d4= .slice (some ⟨sb,0,none⟩) 1 1:=h5;subst d4;have j3:aZ d 113 1 (.slice U m pc) m (u.map λP=>ptr P.pe):=by have q:=w.1.row;rw[a1.out,d9.out]at q;exact q
        obtain ⟨va,vc,w5,n6,n5,n1,ho,n3⟩:=X9 d (.slice U m pc) m (u.map λP=>ptr P.pe) j3 P.pe sb t1 pm;refine zv 98 _ _ _ _ (.slice va (m+1) vc) w5 n6 rfl rfl rfl rfl ?_;have hO:aC d w5 (Value.slice U m pc).ownBlock.toList:=aC.grown n1;have m8:∀b∈(Value.slice U m pc).ownBlock.toList,b<wr.heap.size:=a0.out;have m9:B∉(Value.slice U m pc).ownBlock.toList:=λhm=>by have q:=(aZ.kind j3 B (by simpa using hm)).1;rw[w.2.kind]at q;exact absurd (aH q) ut
        exact gq ⟨0,_⟩ hO ⟨w.1.rows a1.out.symm hO (by rw[d9.out];exact n3),hO.bu w.2 m9⟩ ⟨va,vc,P,rfl,n5,ho.imp id (λe=>⟨_,e,I.size⟩),t3.only hO m8⟩
       simp only[aA];iterate 2 (apply aX;rfl;(intro b1 b2 d a4 a5 a6 a7 t I w;first|(go_simp;exact aq)|(have o0:d.cell? ⟨D,11,none⟩=some (.slice U m pc):=((w.1.cell b0.out rfl).1.trans (by rw[a1.out]));have n':=ab.cell w.2;go_simp;exact aq));simp only[aA])
       refine pz ?_;intro d I hR t;have e5:=t.at (k:=0) (j:=13) rfl;generalize (u0 13).v=d1 at*;have e6:=t.at (k:=1) (j:=14) rfl;generalize (u0 14).v=d2 at*;have e7:=t.at (k:=2) (j:=15) rfl;generalize (u0 15).v=d3 at*;have e8:=t.at (k:=3) (j:=16) rfl;generalize (u0 16).v=d4 at*;have g9:=t.at (k:=4) (j:=17) rfl;generalize (u0 17).v=k3 at*;have j2:vI A.dev wr.heap.size m A.aI (u.map λP=>ptr P.pe) (mA m z.1) k3 d:=by rw[b0.out,a1.out];exact g9
       obtain ⟨m5,m6,o5,m7⟩:=hR.1.cell b0.out rfl;have HQ:=Hq (Xa g4.out hR.1 (by rw[a1.out];exact I) d9.out j2 (by rw[d6.out];exact m2.out) l3.out l0.out l7.out);have HR:=Hq hR;obtain ⟨va,vc,P5,e9⟩:∃va vc P,k3= .slice va (m+1) vc/\True:=by obtain ⟨va,vc,P,e,_⟩:=HQ.out;exact ⟨va,vc,P,e,True.intro⟩
       obtain ⟨e9,_⟩:=e9;subst e9;clear j2 hR I e5 e6 e7 e8 g9 m6 m7;rw[a1.out]at m5;go_wp2;go_roundw
       case rel=>
        obtain ⟨o7,o8,P',e,q1,q2,q3,q4,q5⟩:=HQ.out;rw[Xb c5.out]at q1;rw[b0.out]at q1 q2 q3 q4;rw[d6.out]at q2;exact ⟨m+1,pm,by go_num,Hq (λj hj=>by
         rcases eR j m with e|e
         ·exact i'.out j e
         obtain rfl:j=m:=pm;exact l6.out),⟨D, .slice va (m+1) vc,A.tb,A.bk,A.mp,A.out,A.aE⟩,_,Hq ⟨rfl,d6.out⟩,Hq q1,Hq q2,Hq q3,Hq q4,Hq q5⟩
       case measure=>simp[intOf];omega
    have n0:(z.1.ag.toArray==ag.toArray)=true:=by rw[sd]at heq⊢;rw[heq]
    have d':Hid (¬xB own (c.map Prod.fst)):=Hq (λh=>h m (by rw[cY];exact f7) ⟨z.1,c5.out,Or.inl (by rw[<-e0.out];simpa using heq)⟩);clear b8 a9 b7 b3 c8 c7 gw R AK;go_wp2;go_ret2;exact ⟨λh=>absurd h d'.out,λ_=>⟨rfl,ai b6.out GW.out⟩⟩
   have hd:decide ((m:Int)<(L:Int))=false:=pp;obtain rfl:m=L:=pm;have i8:m=(c.map Prod.fst).length:=(by rw[cY,<-HL.out]);obtain ⟨kk,f4⟩:=kq (fg l 0);have HK:Calls prog 68 #[.pointer (some ⟨D,0,none⟩)] wr (λe y=>e= .returned (.string ⟨kk.toArray⟩)/\gf wr A y A (iM r own l f (c.map Prod.fst) m).dv.fu):=by have q:=xQ wr A _ b4.out.dv (by show(0:Nat)<_;omega) (by show l.length<=1000;rw[l8.out];omega);rw[C.out.1]at q;rw[f4];exact q
   have l5:=Hq f4;have g5:=Hq i8;clear f4 i8;go_wp2_with fail;refine ax HK λy c'=>?_;have k6:y.cell? ⟨D,6,none⟩=some (.string ⟨#[]⟩):=by have q:=ab.cell c'.dv.dv 6;rw[C.out.1]at q;exact q
   have f6:y.frozen? ⟨D,6,none⟩=false:=by have q:=ab.frozen c'.dv.dv 6;rw[C.out.1]at q;exact q
   have m1:=Hq c';clear c' HK;go_wp2;go_ret2;have i3:=b4.out;have j6:=m1.out;rw[g5.out]at i3 j6;obtain ⟨q1,q2⟩:=WZ i3 j6;rw[C.out.1,<-l5.out]at q1 q2;refine ⟨λ_=>⟨A,u,by rw[C.out.1];rfl,q1,sV b6.out q2 (λb n=>f1.out b (bG.2 (Or.inl n))),f1.out⟩,λh=>absurd (λj hj=>i'.out j (by rw[g5.out];exact hj)) h⟩
end
end Go.Proofs.YtmomfbkpniblgaaGreatDoor
