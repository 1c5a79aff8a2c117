/- A part of this claim's proof. -/
import Derived.Test.YtmomfbkpniblgaaGreatDoorYj22
set_option linter.all false
set_option maxHeartbeats 8000000
set_option maxRecDepth 20000
namespace Go.Proofs.YtmomfbkpniblgaaGreatDoor
open Go.Proofs.Tryz
variable {G:World->Prop}
section
open Go.RowKit
attribute [local go_sem↓] Go.wp_at_zero Go.wp_at_succ
def IM (w wr:World)(B A:Nat) us vs (a b c:Value)(f:w.grownBy wr none)(e:ab wr B 148 us)(d:ab wr A 150 vs)
 (h:∀y:World,w.grownBy y none->ab y B 148 us->ab y A 150 vs->ab y wr.heap.size 150 [a,b,c]->G y):G (wr.alloc (.cells #[a,b,c] 150)):=
 h _ (aF f _) (e.kept (aT _ _ none) nofun) (d.kept (aT _ _ none) nofun) (aO wr _)
def Ew:Value->Nat| .string s=>s.data.size|_=>0
def IT (x r:Nat):tr x r<2722258935367507707706996859454145691648:=by
 have:∀y,kI y<2722258935367507707706996859454145691648:=λy=>by unfold kI;omega
 exact this _
def JC (X R:Nat)(c:UInt8)(l b:Lb)(m a:Nat)(hm:m=min 16 (l.length+1))(g:b=(c::l).take m++[1])(f:X=ng R ((c::l).length+1) a (c::l)):
 X=ng R (((c::l).drop m).length+1) (tr (a+aQ b) R) ((c::l).drop m):=by
 have d:(c::l).take m=(c::l).take 16:=by
  by_cases h:16<=l.length+1
  ·rw[hm,iF h]
  rw[hm,xf pm,cE pu,cE pp]
 have e:(c::l).drop m=(c::l).drop 16:=by
  by_cases h:16<=l.length+1
  ·rw[hm,iF h]
  rw[hm,xf pm,iP pu,iP pp]
 rw[e,g,d,f];exact J2 R a (c::l) pu
def Ev (c:UInt8)(l:Lb)(m:Nat):Value.string ⟨(List.take (l.length+1-m) (List.drop m (c::l))).toArray⟩= .string ⟨(List.drop m (c::l)).toArray⟩:=by rw[cE pu]
def JB (c:UInt8)(l:Lb)(m:Nat)(h:0<m)(h1:m<=l.length+1):Ew (.string ⟨(List.take (l.length+1-m) (List.drop m (c::l))).toArray⟩)<Ew (.string ⟨(c::l).toArray⟩):=by rw[Ev];simp only[Ew,qM,aR,eI];omega
def FQ {w}{B A:Nat}{t:TypeId}{vs}(h:ab w B t vs)(a:B≠A)(p q r:Value):ab (((w.setCell ⟨A,0,none⟩ p).setCell ⟨A,1,none⟩ q).setCell ⟨A,2,none⟩ r) B t vs:=
 h.kept (r:=some A) (aw (aw (aw (ak _ _) _ _) _ _) _ _) (by simpa using a)
def abb (w d:World)(A:Nat)(p q s a b c:Value)(g:w.grownBy d none)(f:ab d A 150 [a,b,c])(e:w.heap.size<=A)
 (h:∀y:World,w.grownBy y none->ab y A 150 [p,q,s]->G y):G (((d.setCell ⟨A,0,none⟩ p).setCell ⟨A,1,none⟩ q).setCell ⟨A,2,none⟩ s):=
 h _ (sU g e _ _ _) (rh f _ _ _)
def WS (w:World)(o:Obj)(h:∀x:World,w.grownBy x none->x.heap[w.heap.size]?=some o->G x):G ((w.alloc o).drew):=
 h _ (aM (aF (ak w none) _)) (aO w o)
def VY w (key u:Lb)(hk:key.length=32)(ht:u.length<=9223372036854775807):
 Calls prog 56 #[S key,S u] w (Grown (.tuple #[S (yG key u), .int .i64 0]) w):=by
 obtain ⟨V,hV⟩:=kq (yG key u);rw[<-hV];have HV:=Hq hV;obtain ⟨n1,b8⟩:∃n,n=aQ (key.take 8):=⟨_,rfl⟩;obtain ⟨n2,b9⟩:∃n,n=aQ ((key.drop 8).take 8):=⟨_,rfl⟩;have x1:n1<18446744073709551616:=b8▸te _ (by rw[aJ];omega);have x2:n2<18446744073709551616:=b9▸te _ (by rw[aJ];omega);have L1:∀W:World,Calls prog 92 #[.string ⟨(key.take 8).toArray⟩] W λe z=>e= .returned (.int .u64 n1)/\W=z:=by intro W;have:=qG W (key.take 8) (by rw[aJ];omega);rwa[ku,tN,<-b8]at this
 have L2:∀W:World,Calls prog 92 #[.string ⟨((key.drop 8).take 8).toArray⟩] W λe z=>e= .returned (.int .u64 n2)/\W=z:=by intro W;have:=qG W ((key.drop 8).take 8) (by rw[aJ];omega);rwa[ku,tN,<-b9]at this
 have M1:bits .and .u64 (n1:Int) 1152921487695413247=((n1&&&1152921487695413247:Nat):Int):=rY n1 1152921487695413247 x1 pm;have M2:bits .and .u64 (n2:Int) 1152921487695413244=((n2&&&1152921487695413244:Nat):Int):=rY n2 1152921487695413244 x2 pm;have y1:n1&&&1152921487695413247<18446744073709551616:=kO Nat.and_le_left x1;have y2:n2&&&1152921487695413244<18446744073709551616:=kO Nat.and_le_left x2;have hr:DZ key=(n1&&&1152921487695413247)+18446744073709551616*(n2&&&1152921487695413244):=by rw[b8,b9];rfl
 generalize n1&&&1152921487695413247=b0 at*;generalize n2&&&1152921487695413244=b1 at*;have HR:=Hq hr;have q1:((key.length:Int) !=32)=false:=pp
 have r1:=eD;have r2:=dP;clear hV b8 b9 hr;unfold S at⊢;go_enter func56,ntmps56;go_wp2_with fail;go_region_held3 (λ_=>True) (first|trivial)
  (first
   |(go_at_call 92;(with_reducible refine (L1 _).mono ?_);rintro e w1 ⟨rfl,rfl⟩)
   |(go_at_call 92;(with_reducible refine (L2 _).mono ?_);rintro e w2 ⟨rfl,rfl⟩))
 all_goals
  refine WS w _ λx g0 k0=>?_;have R0:ab x w.heap.size 148 [.int .u64 b0, .int .u64 b1]:=k0;have d3:=R0.lt;clear k0 L1 L2 M1 M2 q1 x1 x2;have a3:=Hq d3;clear d3;go_wp2_with fail;have a':ab (x.alloc (.cells #[.int .u64 0, .int .u64 0, .int .u64 0] 150)) x.heap.size 150 [.int .u64 (0:Nat), .int .u64 (0:Nat), .int .u64 (0:Nat)]:=aO x _;have b3:ab (x.alloc (.cells #[.int .u64 0, .int .u64 0, .int .u64 0] 150)) w.heap.size 148 [.int .u64 b0, .int .u64 b1]:=R0.kept (aT _ _ none) nofun
  have b2:=aF g0 (.cells #[.int .u64 0, .int .u64 0, .int .u64 0] 150);go_loopw [1] (λvt wr=>∃(rest:Lb) (a p q s:Nat),vt= .string ⟨rest.toArray⟩/\rest.length<=u.length/\a<2722258935367507707706996859454145691648/\N3 a= .agg #[.int .u64 p, .int .u64 q, .int .u64 s]/\ng (DZ key) (u.length+1) 0 u=ng (DZ key) (rest.length+1) a rest/\w.grownBy wr none/\ab wr w.heap.size 148 [.int .u64 b0, .int .u64 b1]/\ab wr x.heap.size 150 [.int .u64 p, .int .u64 q, .int .u64 s]) (λvt _=>Ew vt)
  case atStart=>exact ⟨u,0,0,0,0,rfl,bm _,pm,rfl,rfl,b2,b3,a'⟩
  case round=>
   obtain ⟨rest,a,p,q,s,rfl,f3,ha,hN,b7,hg,J,r⟩:=hrel;rcases rest with _|⟨c,l⟩
   ·have hz:yq key u=uI a:=by unfold yq;rw[b7,J1]
    obtain ⟨n5,b'⟩:∃n,n=aQ ((key.drop 16).take 8):=⟨_,rfl⟩;obtain ⟨n6,c1⟩:∃n,n=aQ ((key.drop 24).take 8):=⟨_,rfl⟩;have x5:n5<18446744073709551616:=b'▸te _ (by rw[aJ];omega);have x6:n6<18446744073709551616:=c1▸te _ (by rw[aJ];omega);have L5:∀W:World,Calls prog 92 #[.string ⟨((key.drop 16).take 8).toArray⟩] W λe z=>e= .returned (.int .u64 n5)/\W=z:=by intro W;have:=qG W ((key.drop 16).take 8) (by rw[aJ];omega);rwa[ku,tN,<-b']at this
    have L6:∀W:World,Calls prog 92 #[.string ⟨((key.drop 24).take 8).toArray⟩] W λe z=>e= .returned (.int .u64 n6)/\W=z:=by intro W;have:=qG W ((key.drop 24).take 8) (by rw[aJ];omega);rwa[ku,tN,<-c1]at this
    have d2:wA key=n5+18446744073709551616*n6:=(by rw[b',c1];rfl);obtain ⟨C,z1,c9,c'⟩:∃C z1,C=(yq key u+wA key)%18446744073709551616/\z1=(yq key u+wA key)/18446744073709551616%18446744073709551616:=⟨_,_,rfl,rfl⟩;have d4:V=aP C 8++aP z1 8:=(by rw[HV.out,c9,c'];rfl);obtain ⟨p3,q3,s3,h3⟩:=pT (uI a);have A3:∀W:World,Calls prog 95 #[.agg #[.int .u64 p, .int .u64 q, .int .u64 s]] W (Grown (.agg #[.int .u64 p3, .int .u64 q3, .int .u64 s3]) W):=by intro W;have:=VW W a pm;rwa[hN,h3]at this
    obtain ⟨z2,h4⟩:∃z2:Nat,N3 (uI a+wA key)= .agg #[.int .u64 C, .int .u64 z1, .int .u64 z2]:=⟨_,by rw[c9,c',hz];rfl⟩;have A4:∀W:World,Calls prog 93 #[.agg #[.int .u64 p3, .int .u64 q3, .int .u64 s3], .agg #[.int .u64 n5, .int .u64 n6, .int .u64 0]] W (Grown (.agg #[.int .u64 C, .int .u64 z1, .int .u64 z2]) W):=by intro W;have:=sH W (uI a) (wA key);rw[h4,h3,d2,RM n5 n6 x5 x6]at this;exact this
    have y0:C<18446744073709551616:=pm;have y3:z1<18446744073709551616:=pm;have d9:=Hq d4;have R:=hg;have S0:=r;obtain ⟨⟨o0,o1,o2⟩,a0,a1,a2⟩:=gS r;clear d4 hz b' c1 d2 c9 c' h3 h4 hN b7 J hg r x5 x6 HR a' b3 b2 g0 R0 ha;go_wp2_with fail;go_region_with
     (first
      |(go_at_call 92;(with_reducible refine (L5 _).mono ?_);rintro e w3 ⟨rfl,rfl⟩)
      |(go_at_call 92;(with_reducible refine (L6 _).mono ?_);rintro e w4 ⟨rfl,rfl⟩)
      |(go_at_call 95;(with_reducible refine (A3 _).mono ?_);rintro e w5 ⟨rfl,f⟩;have U:=ai (aM R) f;have S5:=ab.kept (ab.drew S0) f nofun)
      |(go_at_call 93;(with_reducible refine (A4 _).mono ?_);rintro e w6 ⟨rfl,i⟩;have G6:=ai U i;have o:=ab.kept S5 i nofun;obtain ⟨⟨a7,a8,a9⟩,a0,a1,a2⟩:=gS o))
    all_goals
     refine abb w w6 x.heap.size _ _ _ _ _ _ G6 o (by have:=a3.out;omega) λy I Sy=>?_;clear A3 A4 L5 L6 G6 o U S5 a7 a8 a9 a0 a1 a2 o0 o1 o2 f i R S0;obtain ⟨⟨k0,k1,k2⟩,_⟩:=gS Sy;have e7:=Sy.lt;have d0:∀W:World,Calls prog 96 #[.slice none 0 0, .int .u64 C, .int .i64 8] W (oG W W.heap.size (aP C 8)):=λW=>pD W W.heap.size (.slice none 0 0) [] C 8 (mO _ _) y0 pm pu (bm _);have d1:∀(W:World) (b:Nat) (v:Value),dq W b v (aP C 8)->b<=W.heap.size->Calls prog 96 #[v, .int .u64 z1, .int .i64 8] W (oG W b V):=λW b v h1 h2=>by rw[d9.out];exact pD W b v (aP C 8) z1 8 h1 y3 pm (by rw[gE];omega) h2
     go_wp2_with fail;go_region_with
      (first
       |(go_at_call 96;(with_reducible refine (d0 _).mono ?_);rintro e w7 ⟨t1,rfl,e0,c8⟩;have f4:=(c8.cell (p:=⟨x.heap.size,1,none⟩) e7).trans k1)
       |(go_at_call 96;(with_reducible refine (d1 _ _ _ e0 c8.size).mono ?_);rintro e w8 ⟨t2,rfl,e2,d'⟩;have hc:=jL e2;unfold S at hc))
     all_goals
      clear d0 d1;go_wp2;go_ret2;exact ⟨rfl,ai (aM I) (iU (c8.trans d'))⟩
   obtain ⟨m,hm,f8,ml,e1⟩:∃m:Nat,m=min 16 (l.length+1)/\m<=16/\m<=l.length+1/\min (16:Int) ((l.length:Int)+1)=(m:Int):=⟨_,rfl,pm,pm,pm⟩;have m0:0<m:=pm;obtain ⟨g,a6⟩:=kq ((c::l).take m++[1]);have e8:g.length=m+1:=by rw[a6,aK,aJ,eI];simp;omega
   obtain ⟨k,f1,kk,e3⟩:∃k:Nat,k<=8/\g.take k=g.take 8/\min (8:Int) ((m:Int)+1)=(k:Int):=⟨min 8 (m+1),pm,by rw[<-e8,<-ku,pK],pm⟩;obtain ⟨c0,b4⟩:=kq (aQ (g.take 8));have f6:c0<18446744073709551616:=b4▸te _ (by rw[aJ];omega);have L3:∀W:World,Calls prog 92 #[.string ⟨(g.take k).toArray⟩] W λe z=>e= .returned (.int .u64 c0)/\W=z:=by intro W;have:=qG W (g.take k) (by rw[aJ];omega);rwa[kk,ku,tN,<-b4,<-kk]at this
   have e5:((c::l).take m).length=m:=(by rw[aJ,eI];omega);have c2:=O6 _ g a6 pm;rw[e5]at c2;have c3:m<8->aQ ((g.drop 8).take 8)=0:=λh=>O7 _ g a6 pm;have e6:=O5 _ g a6 pm;have d7:a+aQ g<6277101735386680763835789423207666416102355444464034512896:=pm;obtain ⟨b5,a4⟩:∃d,d=aQ ((g.drop 8).take 8):=⟨_,rfl⟩;obtain ⟨b6,a5⟩:∃d:Nat,d=if m=16then 1 else 0:=⟨_,rfl⟩;rw[<-b4,<-a4,<-a5]at c2;rw[<-a4]at c3;obtain ⟨p1,q1,s1,p2,q2,s2,hM,P,A2⟩:=W8 a (aQ g) p q s c0 b5 b6 b0 b1 hN c2 d7 y1 y2;have c5:=Hq hM;have e':=Hq a4;clear hM c2 d7 e6;have e9:=Hq b4;have HK:=Hq kk;have HM:=Hq hm;have f2:=a6.symm;have c6:=Hq a6;have c4:=Hq b7;have HN:=Hq hN;clear b4 kk hm a6 b7 hN;by_cases h8:m<8
   ·obtain rfl:b5=0:=c3 h8;obtain rfl:b6=0:=(by rw[a5,au pm]);rw[show((0:Nat):Int)=0from rfl]at P;clear a4 a5 c3;have t8:¬((8:Int)<(m:Int)+1):=pm;have d8:¬((16:Int)<(m:Int)+1):=pm;go_wp2_with fail;refine (L3 _).mono ?_;rintro e w3 ⟨rfl,rfl⟩;go_wp2_with fail;refine IM w wr w.heap.size x.heap.size _ _ _ _ _ hg J r λy I j t Ny=>?_;have d6:=J.lt;have d5:=r.lt;clear hg J r L3 g0 R0 a' b3 b2;obtain ⟨⟨o0,o1,o2⟩,_⟩:=gS t;obtain ⟨⟨v0,v1,v2⟩,_⟩:=gS Ny;have o3:=j.cell 0;have o4:=j.cell 1;have R:w.grownBy y.drew none:=aM I;have S0:ab y.drew x.heap.size 150 _:=t;have T0:ab y.drew w.heap.size 148 _:=j;clear j t Ny I;go_region_with
     (first
      |(go_at_call 93;(with_reducible refine (P _).mono ?_);rintro e w5 ⟨rfl,f⟩;have n3:=f.cell (a:=⟨w.heap.size,0,none⟩) o3 nofun;have n4:=f.cell (a:=⟨w.heap.size,1,none⟩) o4 nofun;have U:=ai R f;have S5:=ab.kept S0 f nofun;have T5:=ab.kept T0 f nofun)
      |(go_at_call 94;(with_reducible refine (A2 _).mono ?_);rintro e w6 ⟨rfl,i⟩;have G6:=ai U i;have o:=ab.kept S5 i nofun;have T6:=ab.kept T5 i nofun;obtain ⟨⟨a7,a8,a9⟩,a0,a1,a2⟩:=gS o))
    all_goals
     clear P A2 a7 a8 a9 a0 a1 a2 n3 n4 o0 o1 o2 o3 o4 v0 v1 v2;go_wp2;go_roundw
     case rel=>exact ⟨_,_,p2,q2,s2,Ev c l m,by rw[aR];omega,IT _ _,(by rw[HR.out];exact c5.out),JC _ _ c l g m a HM.out c6.out c4.out,sU G6 (by have:=a3.out;omega) _ _ _,FQ T6 (by have:=a3.out;omega) _ _ _,rh o _ _ _⟩
     case measure=>exact JB c l m m0 ml
   clear c3;have t8:(8:Int)<(m:Int)+1:=pm;obtain ⟨k2,e4,f5,c7⟩:∃k2:Nat,min (16:Int) ((m:Int)+1)=(k2:Int)/\8<=k2/\(g.drop 8).take (k2-8)=(g.drop 8).take 8:=⟨min 16 (m+1),pm,pm,by
    by_cases q:16<=m+1
    ·rw[iF q]
    rw[xf pm,cE (by rw[aR];omega),cE (by rw[aR];omega)]⟩
   have f7:b5<18446744073709551616:=a4▸te _ (by rw[aJ];omega);have L4:∀W:World,Calls prog 92 #[.string ⟨((g.drop 8).take (k2-8)).toArray⟩] W λe z=>e= .returned (.int .u64 b5)/\W=z:=by intro W;have:=qG W ((g.drop 8).take (k2-8)) (by rw[aJ,aR];omega);rwa[c7,ku,tN,<-a4,<-c7]at this
   clear a4 c7;by_cases f0:m<16
   ·obtain rfl:b6=0:=(by rw[a5,au pm]);rw[show((0:Nat):Int)=0from rfl]at P;clear a5;have d8:¬((16:Int)<(m:Int)+1):=pm;go_wp2_with fail;refine (L3 _).mono ?_;rintro e w3 ⟨rfl,rfl⟩;go_wp2_with fail;refine (L4 _).mono ?_;rintro e w4 ⟨rfl,rfl⟩;go_wp2_with fail;refine IM w wr w.heap.size x.heap.size _ _ _ _ _ hg J r λy I j t Ny=>?_;have d6:=J.lt;have d5:=r.lt;clear hg J r L3 g0 R0 a' b3 b2;obtain ⟨⟨o0,o1,o2⟩,_⟩:=gS t;obtain ⟨⟨v0,v1,v2⟩,_⟩:=gS Ny;have o3:=j.cell 0;have o4:=j.cell 1;have R:w.grownBy y.drew none:=aM I;have S0:ab y.drew x.heap.size 150 _:=t;have T0:ab y.drew w.heap.size 148 _:=j;clear j t Ny I;go_region_with
     (first
      |(go_at_call 93;(with_reducible refine (P _).mono ?_);rintro e w5 ⟨rfl,f⟩;have n3:=f.cell (a:=⟨w.heap.size,0,none⟩) o3 nofun;have n4:=f.cell (a:=⟨w.heap.size,1,none⟩) o4 nofun;have U:=ai R f;have S5:=ab.kept S0 f nofun;have T5:=ab.kept T0 f nofun)
      |(go_at_call 94;(with_reducible refine (A2 _).mono ?_);rintro e w6 ⟨rfl,i⟩;have G6:=ai U i;have o:=ab.kept S5 i nofun;have T6:=ab.kept T5 i nofun;obtain ⟨⟨a7,a8,a9⟩,a0,a1,a2⟩:=gS o))
    all_goals
     clear P A2 a7 a8 a9 a0 a1 a2 n3 n4 o0 o1 o2 o3 o4 v0 v1 v2;go_wp2;go_roundw
     case rel=>exact ⟨_,_,p2,q2,s2,Ev c l m,by rw[aR];omega,IT _ _,(by rw[HR.out];exact c5.out),JC _ _ c l g m a HM.out c6.out c4.out,sU G6 (by have:=a3.out;omega) _ _ _,FQ T6 (by have:=a3.out;omega) _ _ _,rh o _ _ _⟩
     case measure=>exact JB c l m m0 ml
   obtain rfl:b6=1:=(by rw[a5,av pm]);rw[show((1:Nat):Int)=1from rfl]at P;clear a5;have d8:(16:Int)<(m:Int)+1:=pm;go_wp2_with fail;refine (L3 _).mono ?_;rintro e w3 ⟨rfl,rfl⟩;go_wp2_with fail;refine (L4 _).mono ?_;rintro e w4 ⟨rfl,rfl⟩;go_wp2_with fail;refine IM w wr w.heap.size x.heap.size _ _ _ _ _ hg J r λy I j t Ny=>?_;have d6:=J.lt;have d5:=r.lt;clear hg J r L3 g0 R0 a' b3 b2;obtain ⟨⟨o0,o1,o2⟩,_⟩:=gS t;obtain ⟨⟨v0,v1,v2⟩,_⟩:=gS Ny;have o3:=j.cell 0;have o4:=j.cell 1;have R:w.grownBy y.drew none:=aM I;have S0:ab y.drew x.heap.size 150 _:=t;have T0:ab y.drew w.heap.size 148 _:=j;clear j t Ny I;go_region_with
    (first
     |(go_at_call 93;(with_reducible refine (P _).mono ?_);rintro e w5 ⟨rfl,f⟩;have n3:=f.cell (a:=⟨w.heap.size,0,none⟩) o3 nofun;have n4:=f.cell (a:=⟨w.heap.size,1,none⟩) o4 nofun;have U:=ai R f;have S5:=ab.kept S0 f nofun;have T5:=ab.kept T0 f nofun)
     |(go_at_call 94;(with_reducible refine (A2 _).mono ?_);rintro e w6 ⟨rfl,i⟩;have G6:=ai U i;have o:=ab.kept S5 i nofun;have T6:=ab.kept T5 i nofun;obtain ⟨⟨a7,a8,a9⟩,a0,a1,a2⟩:=gS o))
   all_goals
    clear P A2 a7 a8 a9 a0 a1 a2 n3 n4 o0 o1 o2 o3 o4 v0 v1 v2;go_wp2;go_roundw
    case rel=>exact ⟨_,_,p2,q2,s2,Ev c l m,by rw[aR];omega,IT _ _,(by rw[HR.out];exact c5.out),JC _ _ c l g m a HM.out c6.out c4.out,sU G6 (by have:=a3.out;omega) _ _ _,FQ T6 (by have:=a3.out;omega) _ _ _,rh o _ _ _⟩
    case measure=>exact JB c l m m0 ml
end
end Go.Proofs.YtmomfbkpniblgaaGreatDoor
