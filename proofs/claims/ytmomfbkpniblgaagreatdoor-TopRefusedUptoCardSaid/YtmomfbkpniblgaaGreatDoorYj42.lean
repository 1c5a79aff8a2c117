/- A part of this claim's proof. -/
import Derived.BigRegion
import Derived.Test.YtmomfbkpniblgaaGreatDoorYj41
set_option linter.all false
set_option maxHeartbeats 32000000
set_option maxRecDepth 20000
namespace Go.Proofs.YtmomfbkpniblgaaGreatDoor
open Go.Proofs.Tryz
section
open Go.RowKit Top
def RV (C:Cr Bg Hd Bu)(l:Li Bg Bu)(a:Ac)(c:a.kind<3\/6<a.kind\/a.a<0\/(l.air.length:Int)<=a.a):∃m,(l.act C a).2=some m:=by
 unfold Li.act;split
 ·dsimp only;split
  ·exact ⟨_,rfl⟩
  split<;>exact ⟨_,rfl⟩
 split
 ·exact ⟨_,rfl⟩
 split
 ·rename_i b;dsimp only;have e:(if 0<=a.a then l.air[a.a.toNat]?else none)=none:=by
   split
   ·exact eE pm
   rfl
  rw[e];exact ⟨_,rfl⟩
 exact ⟨_,rfl⟩
def XV {x y z:World}{v}{l:List Gr}{G}(h:eU y v l)(d:∀b,v.ownBlock=some b->x.heap.size<=b)(g:aC y z G)(a:∀b∈G,b<x.heap.size):eU z v l:=
 aZ.only h g (λk c hm=>by have:=d k c;have:=a k hm;omega)
def Wf x (a0:Option Addr)(n c':Nat)(f:Nat->Int)(hf:qW .i64 x a0 n f)(an:af)(a2:Option Addr)(t g':Nat)(a6:∀i,i<t->∃v,uU x a2 i v)(h2:t<=1048576):
 Calls prog 4 #[.slice a0 n c',S an, .slice a2 t g'] x (λe y=>e= .returned (.bool true)/\x.grownBy y none):=by
 have AM:=Wr x a0 n c' f hf an;have HF:=Hq hf;have HI:=Hq a6;clear hf a6;unfold S at*;go_enter func4,ntmps4;go_wp2_with fail;refine AM.mono ?_;rintro e y ⟨m1,m2⟩;clear AM;by_cases a1:sj an n f
 ·obtain ⟨A,rfl,g,h,R⟩:=m1 a1;obtain ⟨LK,d5⟩:=kq A.lk;have g5:=Hq d5.symm;have g3:=Hq g;have HG:=Hq h;have f':=Hq R;have i2:n<=3:=a1.2.2.1;unfold ptr;rw[<-d5];clear m1 m2 g h R a1 d5;go_wp2_with fail;go_loopw [24] (λe' wr=>∃i:Nat,i<=t/\e'= .int .i64 i/\∃A l,Hid (A.lk=LK)/\Hid (si wr A (9+8*i) l/\l.nodes.length=n)/\Hid (x.grownBy wr none)/\Hid (∀b∈A.fp,x.heap.size<=b)) (λe' _=>t-(intOf e').toNat)
  case atStart=>exact ⟨0,pm,rfl,A,_,g5,Hq ⟨g3.out,Io _ _ _ _⟩,HG,f'⟩
  case round=>
   obtain ⟨i,hi,rfl,A,l,e4,g,h,R⟩:=hrel;by_cases h3:i<t
   ·have hd:decide ((i:Int)<(t:Int))=true:=pp;obtain ⟨v,hv⟩:=HI.out i h3;have f7:=hv.ok;have a6:=hv.later (B:=0) (ql h.out _ (bm _) pu);obtain ⟨ad,rfl,i3,c0,c1,c2,c3,c4,c5,c6⟩:=a6.TC;obtain ⟨w1,b'⟩:=kq (wr.alloc (.cells #[.int .i64 v.kind, .int .i64 v.a, .int .i64 v.b, .int .i64 v.c, .int .u32 v.src, .int .u32 v.dst,S v.text] 35));obtain ⟨B,hB⟩:=kq wr.heap.size;have g1:wr.grownBy w1 none:=by rw[b'];exact aF (ak _ _) _
    have f2:ab w1 B 35 [.int .i64 v.kind, .int .i64 v.a, .int .i64 v.b, .int .i64 v.c, .int .u32 v.src, .int .u32 v.dst,S v.text]:=by rw[b',hB];exact aO wr _
    have e0:=g.out.1.at_.new g1;have many:=g.out.1.ok.many;have AA:=xR w1 A l e0 pm;rw[e4.out]at AA;have c9:=Hq f7;have g9:=Hq b';have HB:=Hq hB;have f0:=Hq f2;have G1:=Hq g1;have c7:=Hq e0;clear a6 hv f7 b' hB f2 g1 e0;unfold S ptr at*;go_wp2_with fail;rw[<-g9.out,<-HB.out];clear c0 c1 c2 c3 c4 c5 c6;go_wp2_with fail;refine AA.mono ?_;rintro e y1 ⟨v1,rfl,mm,b9,f5⟩;obtain ⟨va,vc,e9⟩:=gj mm;obtain ⟨L,hL⟩:=kq l.air.length;rw[<-hL]at e9;have b5:=Hq hL;have i1:L<=60:=by rw[hL];exact many
    have r:=f0.out.kept b9 pu;have k0:=ab.cell r 0;have k1:=ab.cell r 1;have k2:=ab.cell r 2;have k3:=ab.cell r 3;have k4:=ab.cell r 4;have k5:=ab.cell r 5;have k6:=ab.cell r 6;simp only[ov,pI]at k0 k1 k2 k3 k4 k5 k6;have d9:si y1 A (9+8*i) l:=⟨c7.out.new b9,g.out.1.ok,g.out.1.em,g.out.1.rt⟩;have AD:=LB C0 Fh y1 A l (9+8*i) d9 pm v c9.out.a c9.out.src c9.out.dst;rw[e4.out]at AD;have g7:=Hq mm;have i0:=Hq e9;have g6:=Hq f5;have h':=Hq d9;have f9:=Hq r;have b8:=Hq (ai h.out (ai G1.out b9));have g4:Hid (∀b∈A.fp,b<w1.heap.size):=Hq (λb hb=>(c7.out.kinds b hb).2);subst e9;clear AA mm f5 d9 r hL many b9;unfold iu S ptr at AD;go_wp2_with fail;refine AD.mono ?_;rintro e y2 ⟨⟨c,rfl,hc⟩,w,a8,f4⟩;have n4:B∉A.fp:=λhm=>by have e:=(c7.out.kinds _ hm).1;rw[(f0.out).kind]at e;rcases e with e|e|e|e|(e|e|e|e|e|e|e)|(e|e|e|e|e)<;>first|exact absurd (aH e) ut|cases e
    have d6:=a8.only.bu f9.out n4;have j0:=ab.cell d6 0;have j1:=ab.cell d6 1;simp only[ov,pI]at j0 j1;have b7:=Hq a8;have d:=Hq f4;have g8:=Hq (XV g7.out g6.out a8.only g4.out);have C:Hid (w.lk=LK):=Hq (a8.e1.trans e4.out);have b6:Hid ((l.fF C0 v).nodes.length=n):=Hq (by rw[(MA C0 Fh g.out.1.ok g.out.1.em pm v).2.2];exact g.out.2)
    have HC:=Hq hc;clear a8 f4 n4 d6 hc AD k0 k1 k2 k3 k4 k5 k6;by_cases hP:c=7/\(v.kind<3\/6<v.kind\/v.a<0\/(L:Int)<=v.a)
    ·obtain ⟨rfl,hk⟩:=hP;rw[b5.out]at hk;obtain ⟨m7,e5⟩:=RV C0 l v hk;have e7:=HC.out m7 e5;obtain rfl:m7=7:=pm;have f8:=Hq (R6 C0 (λu hu=>(g.out.1.em u hu).1) v hk e5);rw[<-b5.out]at hk;have b4:=xR y2 w (l.fF C0 v) d.out.at_ (by have:=d.out.ok.many;omega);rw[C.out]at b4;unfold ptr at b4;have h4:decide (v.kind<3)=true\/(decide (v.kind<3)=false/\decide (6<v.kind)=true)\/(decide (v.kind<3)=false/\decide (6<v.kind)=false/\decide (v.a<0)=true)\/(decide (v.kind<3)=false/\decide (6<v.kind)=false/\decide (v.a<0)=false/\decide ((L:Int)<=v.a)=true):=by simp only[kr,wV];omega
     clear hk e5 e7;rcases h4 with d1|⟨d1,d2⟩|⟨d1,d2,d3⟩|⟨d1,d2,d3,d4⟩;all_goals
      go_wp2_with fail;refine b4.mono ?_;rintro e y3 ⟨v2,rfl,fH,d8,h9⟩;rw[f8.out]at fH;have AE:=UU y3 v2 (.slice va L vc) l.air fH (aZ.new g8.out d8) (by have:=b5.out;omega);obtain ⟨vq,vr,f6⟩:=gj fH;rw[<-b5.out]at f6;subst f6;have g0:=Hq d8;clear b4 fH d8 h9;go_wp2_with fail;refine ax AE λy4 f3=>?_;have f1:=Hq (ai g0.out f3);clear AE f3 j0 j1;have k:=xR y4 w (l.fF C0 v) (d.out.at_.new (f1.out)) (by have:=d.out.ok.many;omega);rw[C.out]at k;have G3:=Hq (f1.out);unfold ptr at k;go_wp2_with fail;refine k.mono ?_;rintro e z ⟨v3,rfl,nR,a4,e6⟩;obtain ⟨vb,vd,a'⟩:=gj nR;obtain ⟨M,p⟩:=kq ((l.fF C0 v).air.length);rw[<-p]at a';have h7:M<=60:=by rw[p];exact d.out.ok.many
      have I:=Hq p;have c8:=Hq nR;have J:=Hq (ai G3.out a4);subst a';clear k nR a4 e6 p;go_wp2_with fail;go_loopw [67] (λU wr=>∃j:Nat,j<=M/\U= .int .i64 j/\Hid (z.grownBy wr none)) (λU _=>M-(intOf U).toNat)
      case atStart=>exact ⟨0,pm,rfl,Hq (ak _ _)⟩
      case round=>
       obtain ⟨j,hj,rfl,s⟩:=hrel;by_cases d':j<M
       ·have d7:decide ((j:Int)<(M:Int))=true:=pp;have a7:j<(l.fF C0 v).air.length:=by rw[<-I.out];exact d'
        obtain ⟨m,hm⟩:∃m,(l.fF C0 v).air[j]?=some m:=⟨_,aW a7⟩;obtain ⟨g2,o2,h0,P,b0,b1,b2⟩:=Aa (aZ.new c8.out s.out) hm;injection P with P e2 e3;subst P;clear e2 e3;obtain ⟨⟨s1,s2⟩,⟨t1,t2⟩,h8,a9,_⟩:=d.out.ok.air m (dc hm);rw[b6.out]at s2 t2;have p1:decide ((m.src:Int)<1)=false:=pp;have p2:decide ((n:Int)<(m.src:Int))=false:=pp;have p3:decide ((m.dst:Int)<1)=false:=pp;have p4:decide ((n:Int)<(m.dst:Int))=false:=pp;have p5:((m.src:Int)==(m.dst:Int))=false:=(by rw[dC];omega);have p6:(m.text==[])=false:=by rw[dC];exact a9
        have w1:IntKind.i64.wrap (m.src:Int)=(m.src:Int):=dG _ pm;have w2:IntKind.i64.wrap (m.dst:Int)=(m.dst:Int):=dG _ pm;unfold S at b2;clear hm a7 a9;go_wp2;go_roundw
        case rel=>exact ⟨j+1,pm,by go_num,Hq (aF s.out _)⟩
        case measure=>simp[intOf];omega
       have d7:decide ((j:Int)<(M:Int))=false:=pp;obtain rfl:j=M:=pm;have o:=xR wr w (l.fF C0 v) (d.out.at_.new (ai J.out s.out)) (by have:=d.out.ok.many;omega);rw[C.out]at o;unfold ptr at o;have h6:decide ((60:Int)<(j:Int))=false:=by have:=d.out.ok.many;have:=I.out;simp;omega
       go_wp2_with fail;refine o.mono ?_;rintro e z2 ⟨v4,rfl,qo,a5,e8⟩;obtain ⟨ve,vf,b3⟩:=gj qo;rw[<-I.out]at b3;subst b3;have a3:=Hq (ai (ai J.out s.out) a5);clear o qo a5 e8;go_wp2;go_roundw
       case rel=>
        refine ⟨i+1,pm,by go_num,w,l.fF C0 v,C,Hq ⟨?_,b6.out⟩,Hq (ai (sV b8.out b7.out.only R.out) a3.out),Hq (λb hb=>?_)⟩
        ·have q:=d.out;rw[show 9+8*(i+1)=9+8*i+8from pm];exact ⟨q.at_.new a3.out,q.ok,q.em,q.rt⟩
        rcases b7.out.fp b hb with e|e
        ·exact R.out b e
        exact bJ b8.out.size e
       case measure=>simp[intOf];omega
    have h5:(c==7)=false\/(c=7/\decide (v.kind<3)=false/\decide (6<v.kind)=false/\decide (v.a<0)=false/\decide ((L:Int)<=v.a)=false):=by
     by_cases e:c=7
     ·refine Or.inr ⟨e,?_⟩;simp only[wV];omega
     exact Or.inl (dC.2 e)
    clear hP;rcases h5 with d0|⟨rfl,d1,d2,d3,d4⟩;all_goals
     have k:=xR y2 w (l.fF C0 v) (d.out.at_.new (ak y2 none)) (by have:=d.out.ok.many;omega);rw[C.out]at k;have G3:=Hq (ak y2 none);unfold ptr at k;go_wp2_with fail;refine k.mono ?_;rintro e z ⟨v3,rfl,nR,a4,e6⟩;obtain ⟨vb,vd,a'⟩:=gj nR;obtain ⟨M,p⟩:=kq ((l.fF C0 v).air.length);rw[<-p]at a';have h7:M<=60:=by rw[p];exact d.out.ok.many
     have I:=Hq p;have c8:=Hq nR;have J:=Hq (ai G3.out a4);subst a';clear k nR a4 e6 p;go_wp2_with fail;go_loopw [67] (λU wr=>∃j:Nat,j<=M/\U= .int .i64 j/\Hid (z.grownBy wr none)) (λU _=>M-(intOf U).toNat)
     case atStart=>exact ⟨0,pm,rfl,Hq (ak _ _)⟩
     case round=>
      obtain ⟨j,hj,rfl,s⟩:=hrel;by_cases d':j<M
      ·have d7:decide ((j:Int)<(M:Int))=true:=pp;have a7:j<(l.fF C0 v).air.length:=by rw[<-I.out];exact d'
       obtain ⟨m,hm⟩:∃m,(l.fF C0 v).air[j]?=some m:=⟨_,aW a7⟩;obtain ⟨g2,o2,h0,P,b0,b1,b2⟩:=Aa (aZ.new c8.out s.out) hm;injection P with P e2 e3;subst P;clear e2 e3;obtain ⟨⟨s1,s2⟩,⟨t1,t2⟩,h8,a9,_⟩:=d.out.ok.air m (dc hm);rw[b6.out]at s2 t2;have p1:decide ((m.src:Int)<1)=false:=pp;have p2:decide ((n:Int)<(m.src:Int))=false:=pp;have p3:decide ((m.dst:Int)<1)=false:=pp;have p4:decide ((n:Int)<(m.dst:Int))=false:=pp;have p5:((m.src:Int)==(m.dst:Int))=false:=(by rw[dC];omega);have p6:(m.text==[])=false:=by rw[dC];exact a9
       have w1:IntKind.i64.wrap (m.src:Int)=(m.src:Int):=dG _ pm;have w2:IntKind.i64.wrap (m.dst:Int)=(m.dst:Int):=dG _ pm;unfold S at b2;clear hm a7 a9;go_wp2;go_roundw
       case rel=>exact ⟨j+1,pm,by go_num,Hq (aF s.out _)⟩
       case measure=>simp[intOf];omega
      have d7:decide ((j:Int)<(M:Int))=false:=pp;obtain rfl:j=M:=pm;have o:=xR wr w (l.fF C0 v) (d.out.at_.new (ai J.out s.out)) (by have:=d.out.ok.many;omega);rw[C.out]at o;unfold ptr at o;have h6:decide ((60:Int)<(j:Int))=false:=by have:=d.out.ok.many;have:=I.out;simp;omega
      go_wp2_with fail;refine o.mono ?_;rintro e z2 ⟨v4,rfl,qo,a5,e8⟩;obtain ⟨ve,vf,b3⟩:=gj qo;rw[<-I.out]at b3;subst b3;have a3:=Hq (ai (ai J.out s.out) a5);clear o qo a5 e8;go_wp2;go_roundw
      case rel=>
       refine ⟨i+1,pm,by go_num,w,l.fF C0 v,C,Hq ⟨?_,b6.out⟩,Hq (ai (sV b8.out b7.out.only R.out) a3.out),Hq (λb hb=>?_)⟩
       ·have q:=d.out;rw[show 9+8*(i+1)=9+8*i+8from pm];exact ⟨q.at_.new a3.out,q.ok,q.em,q.rt⟩
       rcases b7.out.fp b hb with e|e
       ·exact R.out b e
       exact bJ b8.out.size e
      case measure=>simp[intOf];omega
   have hd:decide ((i:Int)<(t:Int))=false:=pp;obtain rfl:i=t:=pm;go_wp2;go_ret;exact ⟨rfl,h.out⟩
 obtain ⟨rfl,h⟩:=m2 a1;have AN:=Ws y a0 n c' f (λi hi=>by obtain ⟨ad,e,h1,h2⟩:=HF.out i hi;exact ⟨ad,e,h.cell h1 pu,h2⟩) an a1
 have HG:=Hq h;unfold S at AN;clear m1 m2 h a1;go_wp2_with fail;refine ax AN λz hz=>?_;have J:=Hq hz;clear hz AN;go_wp2;go_ret;exact ⟨rfl,ai HG.out J.out⟩
end
end Go.Proofs.YtmomfbkpniblgaaGreatDoor
