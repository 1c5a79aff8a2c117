/- A part of this claim's proof. -/
import Derived.Test.YtmomfbkpniblgaaGreatDoorYj32
set_option linter.all false
set_option maxHeartbeats 32000000
set_option maxRecDepth 20000
namespace Go.Proofs.YtmomfbkpniblgaaGreatDoor
open Go.Proofs.Tryz
section
open Go.RowKit
def GH w (hb s id index:Nat) second own PP aD once PQ vc aj k1 k2 ix ic (f:NS)(M1 M2 M3 M4 P:MS)
 (hH:ab w hb 312 (mu s f.h f.c f.k f.n++[.int .i64 s,S own,S PP,S aD,S once, .int .u32 index]))
 (AF:∀W:World,Calls prog 237 #[S second, .int .i64 59, .int .u8 2] W (λe d=>e= .returned (.int .i64 0)/\W=d))
 (C1:∀(j W:World) (m b:Nat),bF j W m b s ⟨f,0⟩->Calls prog 221 #[.pointer (some ⟨m,0,none⟩),S PQ] W (cU j m b s (.tuple #[]) M1))
 (C2:∀(j W:World) (m b:Nat),bF j W m b s M1->Calls prog 222 #[.pointer (some ⟨m,0,none⟩),S once,S PQ] W (cU j m b s (.tuple #[]) M2))
 (C3:∀(j W:World) (m b:Nat),bF j W m b s M2->Calls prog 222 #[.pointer (some ⟨m,0,none⟩),S own,S PQ] W (cU j m b s (.tuple #[]) M3))
 (C4:∀(j W:World) (m b:Nat),bF j W m b s M3->Calls prog 242 #[.pointer (some ⟨b,0,none⟩),S aD] W (cU j m b s (.tuple #[]) M4))
 (C5:∀(j W:World) (m b:Nat),bF j W m b s M4->Calls prog 238 #[.pointer (some ⟨m,0,none⟩),S vc] W (cU j m b s (S aj) P))
 (b8:∀W:World,Calls prog 92 #[S ix] W λe d=>e= .returned (.int .u64 index)/\W=d)
 (ms:(s:Int)%256=(s:Int)) (ws:IntKind.i64.wrap (s:Int)=(s:Int)) (ui:IntKind.u32.wrap (index:Int)=(index:Int)) (cs:((UInt8.ofNat s).toNat:Int)=(s:Int))
 (hl:second.length=59) (h6:(second.drop 6).take 4=ix) (d7:(second.drop 10).take 32=PQ) (d':(second.drop 42).take 17=vc) (n1:second[1]?=some (UInt8.ofNat s)) (Q:Ending->World->Prop)
 (K:(P.e≠0/\∀e d,Grown (.tuple #[.agg #[S [],S []], .int .i64 0, .int .u32 0, .int .i64 P.e]) w e d->Q e d)\/(P.e=0/\∃i:Nat,aj=[UInt8.ofNat i]/\(i:Int)%256=(i:Int)/\IntKind.i64.wrap (i:Int)=(i:Int)/\wrap64 (i:Int)=(i:Int)/\((UInt8.ofNat i).toNat:Int)=(i:Int)/\
  (((∀W:World,Calls prog 218 #[.int .i64 i] W λe d=>e= .returned (.bool false)/\W=d)/\∀e d,Grown (.tuple #[.agg #[S [],S []], .int .i64 0, .int .u32 0, .int .i64 5]) w e d->Q e d)\/
   ((∀W:World,Calls prog 218 #[.int .i64 i] W λe d=>e= .returned (.bool true)/\W=d)/\(∀(j W:World) (m b:Nat),bF j W m b s P->Calls prog 243 #[.pointer (some ⟨b,0,none⟩)] W (Grown (.tuple #[S k1,S k2]) W))/\(∀W:World,Calls prog 92 #[S ic] W λe d=>e= .returned (.int .u64 id)/\W=d)/\IntKind.u32.wrap (id:Int)=(id:Int)/\(second.drop 2).take 4=ic/\
    ∀e d,Grown (.tuple #[.agg #[S k1,S k2], .int .i64 i, .int .u32 id, .int .i64 0]) w e d->Q e d)))):
 Calls prog 183 #[.pointer (some ⟨hb,0,none⟩),S second] w Q:=by
 have i1:(1:Int)<(second.length:Int):=pm
 have i2:(10:Int)<=(second.length:Int):=pm
 have i3:(42:Int)<=(second.length:Int):=pm
 have i4:(6:Int)<=(second.length:Int):=pm
 have r2:=dP;have e1:(ByteArray.mk second.toArray)[1]'(by simp[ByteArray.size];omega)=UInt8.ofNat s:=by
  have:second[1]'(pm)=UInt8.ofNat s:=by rw[aW pm]at n1;exact aH n1
  exact this
 have HK:=Hq K;clear K n1;unfold cU at C1 C2 C3 C4 C5;unfold S mu at hH;obtain ⟨T,hT⟩:∃T,hJ s= .iface T (.agg #[]):=by unfold hJ;split<;>exact ⟨_,rfl⟩
 rw[hT]at hH;unfold S at*;have e4:hb<w.heap.size:=ab.lt hH;have b3:ab (w.alloc (.cells #[.string ⟨#[]⟩, .string ⟨#[]⟩] 246)) w.heap.size 246 [.string ⟨#[]⟩, .string ⟨#[]⟩]:=ab.new w _ _;have a9:=Hq (aT w (.cells #[.string ⟨#[]⟩, .string ⟨#[]⟩] 246) none);have u:=ab.kept hH a9.out pu;obtain ⟨z1,b6⟩:=kq (w.alloc (.cells #[.string ⟨#[]⟩, .string ⟨#[]⟩] 246));rw[<-b6]at b3 a9 u;have b':=Hq b3;have b9:=Hq u;have d0:=ab.cell u 0;have d1:=ab.cell u 1;have d2:=ab.cell u 2;have d3:=ab.cell u 3;have d4:=ab.cell u 4;have d5:=ab.cell u 5;have dA:=ab.cell u 10;have c3:=Hq b6;clear b6 b3 u hH;go_enter func183,ntmps183;go_upto_region 1with(fail);rw[<-c3.out];go_wp2_with fail;refine (AF _).mono ?_;rintro e z ⟨rfl,rfl⟩;clear AF c3;go_upto_region 2with(fail);apply Ro
 case h=>
  go_region_held3 (λW=>W.cell? ⟨hb,5,none⟩=some (.int .i64 s)/\W.cell? ⟨hb,10,none⟩=some (.int .u32 index)) (exact ⟨d5,dA⟩) (first
   |(go_at_call 92;(with_reducible refine (b8 _).mono ?_);rintro e z ⟨rfl,rfl⟩))
  all_goals exact ⟨rfl,rfl,rfl⟩
 case k=>
  obtain ⟨p,b7⟩:=kq z1.drew;rw[<-b7];have g2:z1.grownBy p none:=by rw[b7];exact aM (ak z1 none)
  have a':=Hq (ai a9.out g2);have a7:=Hq (b'.out.kept g2 pu);have a2:=b9.out.kept g2 pu;have a6:=Hq a2;clear b7 d0 d1 d2 d3 d4 d5 dA g2 b8;have d0:=ab.cell a2 0;have d1:=ab.cell a2 1;have d2:=ab.cell a2 2;have d3:=ab.cell a2 3;have d4:=ab.cell a2 4;clear a2 b9 b';have c5:Mx p ((p.alloc (.cells #[.iface T (.agg #[]), .string ⟨f.h.toArray⟩, .string ⟨f.c.toArray⟩, .string ⟨f.k.toArray⟩, .int .u64 f.n] 310)).alloc (.cells #[.pointer (some ⟨p.heap.size,0,none⟩), .int .i64 0] 308)) (p.heap.size+1) p.heap.size s f:=by have e2:(p.alloc (.cells #[.iface T (.agg #[]), .string ⟨f.h.toArray⟩, .string ⟨f.c.toArray⟩, .string ⟨f.k.toArray⟩, .int .u64 f.n] 310)).heap.size=p.heap.size+1:=pu;refine ⟨?_,by unfold gQ bj mu;rw[hT];exact cG (aO p _),pm,aF (aT p _ none) _,pm,bm _⟩;have:=aO (p.alloc (.cells #[.iface T (.agg #[]), .string ⟨f.h.toArray⟩, .string ⟨f.c.toArray⟩, .string ⟨f.k.toArray⟩, .int .u64 f.n] 310)) (.cells #[.pointer (some ⟨p.heap.size,0,none⟩), .int .i64 0] 308);rw[e2]at this;exact this
  have B1:=C1 _ _ _ _ c5.Ex;clear c5 C1;go_wp2_with fail;refine ax B1 λz3 h3=>?_;have B2:=C2 _ _ _ _ h3;have d9:=ab.cell (ab.kept a6.out h3.g pu) 9;clear h3 B1 C2 d0 d1 d2 d3 d4;go_wp2_with fail;refine ax B2 λz4 h4=>?_;have B3:=C3 _ _ _ _ h4;have d6:=ab.cell (ab.kept a6.out h4.g pu) 6;clear h4 B2 C3 d9;go_wp2_with fail;refine ax B3 λz5 h5=>?_;have B4:=C4 _ _ _ _ (h5.new (aM (ak z5 none)));obtain ⟨e0,a4,_⟩:=h5.cells;have d8:=ab.cell (ab.kept a6.out h5.g pu) 8;clear h5 B3 C4 d6;go_upto_region 12with(fail);go_region_held3 (λW=>W.cell? ⟨p.heap.size+1,0,none⟩=some (.pointer (some ⟨p.heap.size,0,none⟩))/\W.cell? ⟨hb,8,none⟩=some (.string ⟨aD.toArray⟩)) (first|exact ⟨f0,f8⟩|exact ⟨e0,d8⟩) (first
   |(go_at_call 242;(with_reducible refine B4.mono ?_);rintro e z6 ⟨rfl,h6⟩;have f0:=h6.cells.1;have f8:=ab.cell (ab.kept a6.out h6.g pu) 8))
  have B5:=C5 _ _ _ _ h6;clear h6 B4 C5 e0 a4 d8 f0 f8;go_wp2_with fail;refine ax B5 λz7 o=>?_;rcases HK.out with⟨a8,kQ⟩|⟨a8,i,c9,mw,ww,wq,cw,kk⟩
  ·have e3:((P.e:Int) !=0)=true:=(by rw[dY];omega);clear a8 HK;obtain ⟨e0,a4,_⟩:=o.cells;have a3:=Hq (a7.out.kept o.g pu);have b0:=Hq (ai a'.out o.g);have SK:∀W:World,z7.grownBy W (some w.heap.size)->W.cell? ⟨p.heap.size+1,1,none⟩=some (.int .i64 P.e):=λW g=>ab.cell (ab.kept o.mx g (λe=>by have:=aH e;have:=ab.lt a7.out;omega)) 1;have e5:w.heap.size<z7.heap.size:=ab.lt a3.out;clear o B5;go_wp2_with fail;have c2:eF 9 5 1002 (λa b=>a.grownBy b (some w.heap.size)) (λl _ zz=>cond l ((λb t c=>ab zz b t c) w.heap.size 246 [.string ⟨#[]⟩, .string ⟨#[]⟩]) ((λx=>ab x w.heap.size 246 [.string ⟨#[]⟩, .string ⟨#[]⟩]) zz)) []:=⟨λ_ _ h=>eo h,λ_ _ _=>ai,λl _ a b h g=>match l,h with|true,h=>ab.kept h g pu|false,h=>(λx y h g=>ab.kept h g pu) a b h g,True.intro,λ_=>True.intro,λe=>absurd e ut,qr⟩;apply gT c2 qr qr (a3.out);intro u0;iterate 5 (apply aX;rfl;(intro l R x U C a0 a1 I r J;first|(go_simp;exact aq)|(have c8:=SK x r;go_simp;exact aq));simp only[aA])
   apply pn c2 qr
   ·intro l R x U C a0 a1 I r J;obtain rfl:=C (Or.inl rfl);have q:(λx=>ab x w.heap.size 246 [.string ⟨#[]⟩, .string ⟨#[]⟩]) x:=J;dsimp only at q;have z0:=ab.cell q 0;have c':=ab.cell q 1;have q0:=ab.frozen q 0;have q1:=ab.frozen q 1
    go_simp
    exact gw (aw (aw (ak _ _) 0 _) 1 _) ((q.set 0 _).set 1 _)
   simp only[aA];iterate 3 (apply aX;rfl;(intro l R x U C a0 a1 I r J;first|(go_simp;exact aq)|(have c8:=SK x r;go_simp;exact aq));simp only[aA])
   refine pz ?_;intro x r hR I;refine oD ?_;have b5:(λb t c=>ab x b t c) w.heap.size 246 [.string ⟨#[]⟩, .string ⟨#[]⟩]:=hR;have t0:=ab.cell b5 0;have t1:=ab.cell b5 1;go_wp2_with fail;refine bodyPost_ret (v:= .tuple #[.agg #[.string ⟨#[]⟩, .string ⟨#[]⟩], .int .i64 0, .int .u32 0, .int .i64 P.e]) (by simp[results,results183,go_sem,t0,t1]) rfl ?_;exact kQ _ _ ⟨rfl,cJ b0.out r (bm _)⟩
  have x0:(ByteArray.mk #[UInt8.ofNat i])[0]'(Nat.zero_lt_one)=UInt8.ofNat i:=rfl;have c7:=Hq a8;subst c9;clear a8 HK;have b4:=o;have o:=o.Ey c7.out;rcases kk with⟨AI,kQ⟩|⟨AI,C6,c6,uj,h2,kQ⟩
  ·obtain ⟨e0,a4,_⟩:=o.cells;have a3:=Hq (a7.out.kept o.g pu);have b0:=Hq (ai a'.out o.g);clear o b4 B5;go_wp2_with fail;refine (AI _).mono ?_;rintro e z ⟨rfl,rfl⟩;have a5:=a3.out;have z0:=ab.cell a5 0;have e7:=ab.cell a5 1;have q0:=ab.frozen a5 0;have q1:=ab.frozen a5 1;clear a5;go_wp2_with fail;have g:=aw (aw (ak z7 (some w.heap.size)) 0 (.string ⟨#[]⟩)) 1 (.string ⟨#[]⟩);have b:=(a3.out.set 0 (.string ⟨#[]⟩)).set 1 (.string ⟨#[]⟩);have t0:=ab.cell b 0;have t1:=ab.cell b 1;refine bodyPost_ret (v:= .tuple #[.agg #[.string ⟨#[]⟩, .string ⟨#[]⟩], .int .i64 0, .int .u32 0, .int .i64 5]) (by simp[results,results183,go_sem,t0,t1]) rfl ?_;exact kQ _ _ ⟨rfl,cJ b0.out g (bm _)⟩
  skip
  obtain ⟨e0,a4,_⟩:=o.cells;have B6:=C6 _ _ _ _ b4;have H7:=Hq o;clear o b4 B5 C6;go_wp2_with fail;refine (AI _).mono ?_;rintro e z ⟨rfl,rfl⟩;go_wp2_with fail;refine ax B6 λz8 g8=>?_;have H8:=Hq (H7.out.new g8);clear H7 g8 B6 e0 a4 AI;have c0:=Hq (a7.out.kept H8.out.g pu);have e6:w.heap.size<z8.heap.size:=ab.lt c0.out;go_upto_region 19with(fail);have c1:eF 14 10 1002 (λa b=>a.grownBy b (some w.heap.size)) (λl _ zz=>cond l ((λb t c=>ab zz b t c) w.heap.size 246 [.string ⟨k1.toArray⟩, .string ⟨k2.toArray⟩]) ((λx=>ab x w.heap.size 246 [.string ⟨#[]⟩, .string ⟨#[]⟩]) zz)) []:=⟨λ_ _ h=>eo h,λ_ _ _=>ai,λl _ a b h g=>match l,h with|true,h=>ab.kept h g pu|false,h=>(λx y h g=>ab.kept h g pu) a b h g,True.intro,λ_=>True.intro,λe=>absurd e ut,qr⟩;apply gT c1 qr qr (c0.out);intro u0;iterate 8 (apply aX;rfl;(intro l R x U C a0 a1 I r J;go_simp;exact aq);simp only[aA])
  apply aX;rfl
  ·intro l R x U C a0 a1 I r J
   go_simp
   refine (c6 _).mono ?_;rintro e z ⟨rfl,rfl⟩;exact aq
  simp only[aA];apply aX;rfl;·(intro l R x U C a0 a1 I r J;go_simp;exact aq)
  simp only[aA];apply pn c1 qr
  ·intro l R x U C a0 a1 I r J;obtain rfl:=C (Or.inl rfl);have q:(λx=>ab x w.heap.size 246 [.string ⟨#[]⟩, .string ⟨#[]⟩]) x:=J;dsimp only at q;have z0:=ab.cell q 0;have c':=ab.cell q 1;have q0:=ab.frozen q 0;have q1:=ab.frozen q 1
   go_simp
   exact gw (aw (aw (ak _ _) 0 _) 1 _) ((q.set 0 _).set 1 _)
  simp only[aA];iterate 3 (apply aX;rfl;(intro l R x U C a0 a1 I r J;go_simp;exact aq);simp only[aA])
  refine pz ?_;intro x r hR I;refine oD ?_;have c4:(λb t c=>ab x b t c) w.heap.size 246 [.string ⟨k1.toArray⟩, .string ⟨k2.toArray⟩]:=hR;have t0:=ab.cell c4 0;have t1:=ab.cell c4 1;go_wp2_with fail;refine bodyPost_ret (v:= .tuple #[.agg #[.string ⟨k1.toArray⟩, .string ⟨k2.toArray⟩], .int .i64 i, .int .u32 id, .int .i64 0]) (by simp[results,results183,go_sem,t0,t1]) rfl ?_;exact kQ _ _ ⟨rfl,cJ (ai a'.out H8.out.g) r (bm _)⟩
def Gm w (s:Nat)(h1:s≠1)(b:s≠2):Calls prog 218 #[.int .i64 s] w λe a=>e= .returned (.bool false)/\w=a:=by
 have c:((s:Int)==1)=false:=by rw[dC];omega
 have d:((s:Int)==2)=false:=by rw[dC];omega
 go_enter func218,ntmps218;go_wp2;go_ret;exact ⟨rfl,rfl⟩
def Wj w (l:Lb)(c:UInt8)(n:Nat)(k:l.length=n)(i:2<=n)(j:n<=1000)(f:l.getD 0 0≠c):
 Calls prog 237 #[S l, .int .i64 n, .int .u8 c.toNat] w λe g=>e= .returned (.int .i64 5)/\w=g:=by
 obtain ⟨a,b⟩:=kq (l[0]'(pm));have d:a≠c:=by intro e;apply f;rw[dh,aW pm];show l[0]=c;rw[<-b,e]
 have h:(ByteArray.mk l.toArray)[0]'(by simp[ByteArray.size];omega)=a:=by rw[b];rfl
 have o:((a.toNat:Int) !=(c.toNat:Int))=true:=by rw[dY];intro e;exact d (tJ.1 pm)
 have p:((a.toNat:Int)==(c.toNat:Int))=false:=by rw[dC];intro e;exact d (tJ.1 pm)
 have q:¬(a.toNat=c.toNat):=λe=>d (tJ.1 e);have m:(0:Int)<(l.length:Int):=pm
 have r:¬(l.length:Int)<(n:Int):=pm
 have s:¬(n:Int)<(l.length:Int):=pm
 clear b f;unfold S;go_enter func237,ntmps237;go_wp2;go_ret;exact ⟨rfl,rfl⟩
def Wm w (l:Lb)(c:UInt8)(n a:Nat)(r:l.length=n)(p:2<=n)(q:n<=1000)(h:l.getD 0 0=c)(f:(l.getD 1 0).toNat=a)(h1:a≠1)(j:a≠2):
 Calls prog 237 #[S l, .int .i64 n, .int .u8 c.toNat] w λe g=>e= .returned (.int .i64 5)/\w=g:=by
 have i:∀W:World,Calls prog 218 #[.int .i64 a] W λe g=>e= .returned (.bool false)/\W=g:=λW=>Gm W a h1 j;have m:(ByteArray.mk l.toArray)[0]'(by simp[ByteArray.size];omega)=c:=by rw[<-h,dh,aW pm];rfl
 obtain ⟨b,d⟩:=kq (l[1]'(pm));have o:(ByteArray.mk l.toArray)[1]'(by simp[ByteArray.size];omega)=b:=by rw[d];rfl
 have c1:(b.toNat:Int)=(a:Int):=by rw[<-f,d,dh,aW pm];rfl
 have s:a<256:=by rw[<-f];exact vu _
 have k:IntKind.i64.wrap (a:Int)=(a:Int):=dG _ pm;have t:(0:Int)<(l.length:Int):=pm
 have u:(1:Int)<(l.length:Int):=pm
 have v:¬(l.length:Int)<(n:Int):=pm
 have x:¬(n:Int)<(l.length:Int):=pm
 clear d h f;unfold S;go_enter func237,ntmps237;go_wp2_with fail;refine (i _).mono ?_;rintro e k ⟨rfl,rfl⟩;go_wp2;go_ret;exact ⟨rfl,rfl⟩
def mT(l:Lb)(n:Nat)(c:UInt8):Nat:=if l.length<n then 4 else if l.length≠n\/l.getD 0 0≠c\/((l.getD 1 0).toNat≠1/\(l.getD 1 0).toNat≠2)then 5 else 0
def GB w (l:Lb)(c:UInt8)(n:Nat)(m:l.length<=2000)(j:2<=n)(g:n<=1000):
 Calls prog 237 #[S l, .int .i64 n, .int .u8 c.toNat] w λe k=>e= .returned (.int .i64 (mT l n c))/\w=k:=by
 unfold mT;by_cases h:l.length<n
 ·rw[av h];exact Wl w l c n h g
 rw[au h];by_cases d:l.length=n
 ·by_cases f:l.getD 0 0=c
  ·by_cases i:(l.getD 1 0).toNat=1\/(l.getD 1 0).toNat=2
   ·rw[au (by rintro (e|e|e);exact e d;exact e f;omega)];obtain ⟨a,b,t,rfl⟩:∃a b t,l=a::b::t:=by
     match l,d with
     |[],d=>simp at d;omega
     |[a],d=>simp at d;omega
     |a::b::t,_=>exact ⟨a,b,t,rfl⟩
    have f:a=c:=f;have i:b.toNat=1\/b.toNat=2:=i;refine Wi w _ c b.toNat n i t ?_ d g;rw[f,Fc]
   rw[av (Or.inr (Or.inr pm))];exact Wm w l c n _ d j g f rfl pm pm
  rw[av (Or.inr (Or.inl f))];exact Wj w l c n d j g f
 rw[av (Or.inl d)];exact Wk w l c n pm pm g
def WA w (m s index:Nat) second own PP aD once (i:NS)(c:Nat)(hc:c≠0)
 (a:ab w m 312 (mu s i.h i.c i.k i.n++[.int .i64 s,S own,S PP,S aD,S once, .int .u32 index]))
 (q:∀W:World,Calls prog 237 #[S second, .int .i64 59, .int .u8 2] W (λe P=>e= .returned (.int .i64 c)/\W=P)):
 Calls prog 183 #[.pointer (some ⟨m,0,none⟩),S second] w (Grown (.tuple #[.agg #[S [],S []], .int .i64 0, .int .u32 0, .int .i64 c]) w):=by
 have a0:((c:Int)==0)=false:=by rw[dC];omega
 have a1:((c:Int) !=0)=true:=by rw[dY];omega
 unfold S mu at a;obtain ⟨T,J⟩:∃T,hJ s= .iface T (.agg #[]):=by unfold hJ;split<;>exact ⟨_,rfl⟩
 rw[J]at a;unfold S at*;have a2:m<w.heap.size:=ab.lt a;have l:ab (w.alloc (.cells #[.string ⟨#[]⟩, .string ⟨#[]⟩] 246)) w.heap.size 246 [.string ⟨#[]⟩, .string ⟨#[]⟩]:=ab.new w _ _;have j:=Hq (aT w (.cells #[.string ⟨#[]⟩, .string ⟨#[]⟩] 246) none);have f:=ab.kept a j.out pu;obtain ⟨R,o⟩:=kq (w.alloc (.cells #[.string ⟨#[]⟩, .string ⟨#[]⟩] 246));rw[<-o]at l j f;have r:=Hq l;have y:=Hq f;have C:=ab.cell f 5;have I:=ab.cell f 10;have u:=Hq o;clear o l f a;go_enter func183,ntmps183;go_upto_region 1with(fail);rw[<-u.out];go_wp2_with fail;refine (q _).mono ?_;rintro e z ⟨rfl,rfl⟩;clear q u;go_upto_region 2with(fail);apply yQ (λz=>R.grownBy z none)
 case h=>
  go_quiet (fail)
  exact ⟨rfl,rfl,by repeat(first|exact ak _ _|apply iT|apply aM)⟩
 case k=>intro U p;have t:=Hq (r.out.kept p pu);have x:=Hq (ai j.out p);clear C I p r y;have d:=t.out;have z0:=ab.cell d 0;have a3:=ab.cell d 1;have q0:=ab.frozen d 0;have q1:=ab.frozen d 1;clear d;go_wp2_with fail;have g:=aw (aw (ak U (some w.heap.size)) 0 (.string ⟨#[]⟩)) 1 (.string ⟨#[]⟩);have b:=(t.out.set 0 (.string ⟨#[]⟩)).set 1 (.string ⟨#[]⟩);have t0:=ab.cell b 0;have t1:=ab.cell b 1;refine bodyPost_ret (v:= .tuple #[.agg #[.string ⟨#[]⟩, .string ⟨#[]⟩], .int .i64 0, .int .u32 0, .int .i64 c]) (by simp[results,results183,go_sem,t0,t1]) rfl ?_;exact ⟨rfl,cJ x.out g (bm _)⟩
def WD w (o s index:Nat) second own PP aD once (j:NS)
 (d:ab w o 312 (mu s j.h j.c j.k j.n++[.int .i64 s,S own,S PP,S aD,S once, .int .u32 index]))
 (x:∀W:World,Calls prog 237 #[S second, .int .i64 59, .int .u8 2] W (λe w'=>e= .returned (.int .i64 0)/\W=w'))
 (hl:second.length=59) (a:Nat) (u:(second.getD 1 0).toNat=a) (a1:a≠s):
 Calls prog 183 #[.pointer (some ⟨o,0,none⟩),S second] w (Grown (.tuple #[.agg #[S [],S []], .int .i64 0, .int .u32 0, .int .i64 5]) w):=by
 have q:((a:Int) !=(s:Int))=true:=by rw[dY];omega
 obtain ⟨b,p⟩:=kq (second[1]'(pm));have e1:(ByteArray.mk second.toArray)[1]'(by simp[ByteArray.size];omega)=b:=by rw[p];rfl
 have c1:(b.toNat:Int)=(a:Int):=by rw[<-u,p,dh,aW pm];rfl
 have a2:a<256:=by rw[<-u];exact vu _
 have ws:IntKind.i64.wrap (a:Int)=(a:Int):=dG _ pm;have i1:(1:Int)<(second.length:Int):=pm
 have i2:(10:Int)<=(second.length:Int):=pm
 have r2:=dP;clear p u;unfold S mu at d;obtain ⟨T,hT⟩:∃T,hJ s= .iface T (.agg #[]):=by unfold hJ;split<;>exact ⟨_,rfl⟩
 rw[hT]at d;unfold S at*;have a0:o<w.heap.size:=ab.lt d;have m:ab (w.alloc (.cells #[.string ⟨#[]⟩, .string ⟨#[]⟩] 246)) w.heap.size 246 [.string ⟨#[]⟩, .string ⟨#[]⟩]:=ab.new w _ _;have l:=Hq (aT w (.cells #[.string ⟨#[]⟩, .string ⟨#[]⟩] 246) none);have i:=ab.kept d l.out pu;obtain ⟨z1,r⟩:=kq (w.alloc (.cells #[.string ⟨#[]⟩, .string ⟨#[]⟩] 246));rw[<-r]at m l i;have y:=Hq m;have P:=Hq i;have R:=ab.cell i 5;have U:=ab.cell i 10;have I:=Hq r;clear r m i d;go_enter func183,ntmps183;go_upto_region 1with(fail);rw[<-I.out];go_wp2_with fail;refine (x _).mono ?_;rintro e z ⟨rfl,rfl⟩;clear x I;go_upto_region 2with(fail);apply yQ (λz=>z1.grownBy z none)
 case h=>
  go_quiet (fail)
  exact ⟨rfl,rfl,by repeat(first|exact ak _ _|apply iT|apply aM)⟩
 case k=>intro z2 t;have C:=Hq (y.out.kept t pu);have J:=Hq (ai l.out t);clear R U t y P;have f:=C.out;have z0:=ab.cell f 0;have a3:=ab.cell f 1;have q0:=ab.frozen f 0;have q1:=ab.frozen f 1;clear f;go_wp2_with fail;have g:=aw (aw (ak z2 (some w.heap.size)) 0 (.string ⟨#[]⟩)) 1 (.string ⟨#[]⟩);have b:=(C.out.set 0 (.string ⟨#[]⟩)).set 1 (.string ⟨#[]⟩);have t0:=ab.cell b 0;have t1:=ab.cell b 1;refine bodyPost_ret (v:= .tuple #[.agg #[.string ⟨#[]⟩, .string ⟨#[]⟩], .int .i64 0, .int .u32 0, .int .i64 5]) (by simp[results,results183,go_sem,t0,t1]) rfl ?_;exact ⟨rfl,cJ J.out g (bm _)⟩
def WC w (i s index a:Nat) second own PP aD once ix (l:NS)
 (d:ab w i 312 (mu s l.h l.c l.k l.n++[.int .i64 s,S own,S PP,S aD,S once, .int .u32 index]))
 (y:∀W:World,Calls prog 237 #[S second, .int .i64 59, .int .u8 2] W (λe x=>e= .returned (.int .i64 0)/\W=x))
 (hl:second.length=59) (u:(second.getD 1 0).toNat=s) (U:∀W:World,Calls prog 92 #[S ix] W λe x=>e= .returned (.int .u64 a)/\W=x) (h6:(second.drop 6).take 4=ix) (a2:a<4294967296) (a4:a≠index):
 Calls prog 183 #[.pointer (some ⟨i,0,none⟩),S second] w (Grown (.tuple #[.agg #[S [],S []], .int .i64 0, .int .u32 0, .int .i64 5]) w):=by
 have q:((a:Int) !=(index:Int))=true:=by rw[dY];omega
 have ui:IntKind.u32.wrap (a:Int)=(a:Int):=pN _ pm;have z6:second.length-6=53:=pm
 obtain ⟨b,p⟩:=kq (second[1]'(pm));have e1:(ByteArray.mk second.toArray)[1]'(by simp[ByteArray.size];omega)=b:=by rw[p];rfl
 have c1:(b.toNat:Int)=(s:Int):=by rw[<-u,p,dh,aW pm];rfl
 have a5:s<256:=by rw[<-u];exact vu _
 have ws:IntKind.i64.wrap (s:Int)=(s:Int):=dG _ pm;have i1:(1:Int)<(second.length:Int):=pm
 have i2:(10:Int)<=(second.length:Int):=pm
 have r2:=dP;clear p u;unfold S mu at d;obtain ⟨T,hT⟩:∃T,hJ s= .iface T (.agg #[]):=by unfold hJ;split<;>exact ⟨_,rfl⟩
 rw[hT]at d;unfold S at*;have a3:i<w.heap.size:=ab.lt d;have o:ab (w.alloc (.cells #[.string ⟨#[]⟩, .string ⟨#[]⟩] 246)) w.heap.size 246 [.string ⟨#[]⟩, .string ⟨#[]⟩]:=ab.new w _ _;have m:=Hq (aT w (.cells #[.string ⟨#[]⟩, .string ⟨#[]⟩] 246) none);have j:=ab.kept d m.out pu;obtain ⟨z1,r⟩:=kq (w.alloc (.cells #[.string ⟨#[]⟩, .string ⟨#[]⟩] 246));rw[<-r]at o m j;have C:=Hq o;have a1:=Hq j;have P:=ab.cell j 5;have R:=ab.cell j 10;have J:=Hq r;clear r o j d;go_enter func183,ntmps183;go_upto_region 1with(fail);rw[<-J.out];go_wp2_with fail;refine (y _).mono ?_;rintro e z ⟨rfl,rfl⟩;clear y J;go_upto_region 2with(fail);apply yQ (λz=>z1.grownBy z none)
 case h=>
  go_region_held3 (λW=>W.cell? ⟨i,5,none⟩=some (.int .i64 s)/\W.cell? ⟨i,10,none⟩=some (.int .u32 index)) (exact ⟨P,R⟩) (first
   |(go_at_call 92;(with_reducible refine (U _).mono ?_);rintro e z ⟨rfl,rfl⟩))
  all_goals exact ⟨rfl,rfl,by repeat(first|exact ak _ _|apply iT|apply aM)⟩
 case k=>intro z2 t;have I:=Hq (C.out.kept t pu);have a0:=Hq (ai m.out t);clear P R t C a1;have f:=I.out;have z0:=ab.cell f 0;have a6:=ab.cell f 1;have q0:=ab.frozen f 0;have q1:=ab.frozen f 1;clear f;go_wp2_with fail;have g:=aw (aw (ak z2 (some w.heap.size)) 0 (.string ⟨#[]⟩)) 1 (.string ⟨#[]⟩);have b:=(I.out.set 0 (.string ⟨#[]⟩)).set 1 (.string ⟨#[]⟩);have t0:=ab.cell b 0;have t1:=ab.cell b 1;refine bodyPost_ret (v:= .tuple #[.agg #[.string ⟨#[]⟩, .string ⟨#[]⟩], .int .i64 0, .int .u32 0, .int .i64 5]) (by simp[results,results183,go_sem,t0,t1]) rfl ?_;exact ⟨rfl,cJ a0.out g (bm _)⟩
def Mr w (hb s U id index:Nat) aD other PQ PO PS vc k1 k2 ix ic (f:NS)(M1 M2 M3 M4 M5:MS)(c2:s=1\/s=2)
 (hH:ab w hb 323 (mu s f.h f.c f.k f.n++[.int .i64 s, .int .u32 index,S PO,S PS]))
 (AK:∀W:World,Calls prog 219 #[.slice (some ⟨W.heap.size,0,none⟩) 2 2] (W.alloc (.cells #[S aD,S other] 9)) (λe w'=>e= .returned (.bool true)/\(W.alloc (.cells #[S aD,S other] 9))=w'))
 (AI:∀W:World,Calls prog 218 #[.int .i64 U] W λe w'=>e= .returned (.bool true)/\W=w')
 (AP:∀W:World,Calls prog 38 #[S other] W (Grown (.tuple #[S PQ, .int .i64 0]) W))
 (C1:∀(p W:World) (m b:Nat),bF p W m b s ⟨f,0⟩->Calls prog 221 #[.pointer (some ⟨m,0,none⟩),S PQ] W (cU p m b s (.tuple #[]) M1))
 (C2:∀(p W:World) (m b:Nat),bF p W m b s M1->Calls prog 222 #[.pointer (some ⟨m,0,none⟩),S other,S PO] W (cU p m b s (.tuple #[]) M2))
 (C3:∀(p W:World) (m b:Nat),bF p W m b s M2->Calls prog 222 #[.pointer (some ⟨m,0,none⟩),S other,S PS] W (cU p m b s (.tuple #[]) M3))
 (C4:∀(p W:World) (m b:Nat),bF p W m b s M3->Calls prog 242 #[.pointer (some ⟨b,0,none⟩),S aD] W (cU p m b s (.tuple #[]) M4))
 (C5:∀(p W:World) (m b:Nat),bF p W m b s M4->Calls prog 223 #[.pointer (some ⟨m,0,none⟩),S [UInt8.ofNat U]] W (cU p m b s (S vc) M5))
 (C6:∀(p W:World) (m b:Nat),bF p W m b s M5->Calls prog 243 #[.pointer (some ⟨b,0,none⟩)] W (Grown (.tuple #[S k1,S k2]) W))
 (A9:∀W:World,Calls prog 224 #[.int .u32 id] W (Grown (S ic) W)) (A8:∀W:World,Calls prog 224 #[.int .u32 index] W (Grown (S ix) W))
 (uw:IntKind.u8.wrap (U:Int)=(U:Int)) (us:IntKind.u8.wrap (s:Int)=(s:Int)) (mw:(U:Int)%256=(U:Int)) (ms:(s:Int)%256=(s:Int))
 (CB:∀W:World,(convert 83 9 (.slice (some ⟨W.heap.size,0,none⟩) 1 1)).run prog (W.alloc (.cells #[.int .u8 U] 5))= .ok (.string ⟨#[UInt8.ofNat U]⟩) (W.alloc (.cells #[.int .u8 U] 5)))
 (l4:ix.length=4) (l5:ic.length=4) (c6:PQ.length=32) (Q:Ending->World->Prop)
 (K:(M5.e≠0/\∀e w',Grown (.tuple #[S [], .agg #[S [],S []], .int .i64 M5.e]) w e w'->Q e w')\/(M5.e=0/\vc.length=17/\
  ∀e w',Grown (.tuple #[S (2::UInt8.ofNat s::(ic++(ix++(PQ++vc)))), .agg #[S k2,S k1], .int .i64 0]) w e w'->Q e w')):
 Calls prog 179 #[.pointer (some ⟨hb,0,none⟩),S aD,S other, .int .i64 U, .int .u32 id] w Q:=by
 have r1:=eD;have HK:=Hq K;clear K;unfold cU at C1 C2 C3 C4 C5;unfold S mu at hH;obtain ⟨T,hT⟩:∃T,hJ s= .iface T (.agg #[]):=by unfold hJ;split<;>exact ⟨_,rfl⟩
 rw[hT]at hH;unfold S at*;have c5:hb<w.heap.size:=ab.lt hH;have a1:ab (w.alloc (.cells #[.string ⟨#[]⟩, .string ⟨#[]⟩] 246)) w.heap.size 246 [.string ⟨#[]⟩, .string ⟨#[]⟩]:=ab.new w _ _;have a8:=Hq (aT w (.cells #[.string ⟨#[]⟩, .string ⟨#[]⟩] 246) none);have a1:=Hq a1;have a3:=AK (w.alloc (.cells #[.string ⟨#[]⟩, .string ⟨#[]⟩] 246));rw[World.size_alloc]at a3;have HH:=Hq hH;clear hH AK;go_enter func179,ntmps179;go_wp2_with fail;refine ax a3 λC h1=>?_;have g1:(w.alloc (.cells #[.string ⟨#[]⟩, .string ⟨#[]⟩] 246)).grownBy C none:=by rw[<-h1];exact aT _ _ none
 have a6:=Hq (a1.out.kept g1 pu);have a4:=Hq (ai a8.out g1);have a0:=ab.kept HH.out a4.out pu;have d0:=ab.cell a0 0;have d1:=ab.cell a0 1;have d2:=ab.cell a0 2;have d3:=ab.cell a0 3;have d4:=ab.cell a0 4;have a5:=Hq a0;clear h1 g1 a1 a8 a3 a0;go_wp2_with fail;refine (AI _).mono ?_;rintro e z ⟨rfl,rfl⟩;go_wp2_with fail;refine ax (AP _) λz2 g2=>?_;have b9:Mx C ((C.alloc (.cells #[.iface T (.agg #[]), .string ⟨f.h.toArray⟩, .string ⟨f.c.toArray⟩, .string ⟨f.k.toArray⟩, .int .u64 f.n] 310)).alloc (.cells #[.pointer (some ⟨C.heap.size,0,none⟩), .int .i64 0] 308)) (C.heap.size+1) C.heap.size s f:=by
  have e2:(C.alloc (.cells #[.iface T (.agg #[]), .string ⟨f.h.toArray⟩, .string ⟨f.c.toArray⟩, .string ⟨f.k.toArray⟩, .int .u64 f.n] 310)).heap.size=C.heap.size+1:=pu
  refine ⟨?_,by unfold gQ bj mu;rw[hT];exact cG (aO C _),pm,aF (aT C _ none) _,pm,bm _⟩;have:=aO (C.alloc (.cells #[.iface T (.agg #[]), .string ⟨f.h.toArray⟩, .string ⟨f.c.toArray⟩, .string ⟨f.k.toArray⟩, .int .u64 f.n] 310)) (.cells #[.pointer (some ⟨C.heap.size,0,none⟩), .int .i64 0] 308);rw[e2]at this;exact this
 have B1:=C1 _ _ _ _ (b9.new g2).Ex;clear g2 b9 AP AI C1 d0 d1 d2 d3 d4;go_wp2_with fail;refine ax B1 λz3 h3=>?_;have B2:=C2 _ _ _ _ h3;have d7:=ab.cell (ab.kept a5.out h3.g pu) 7;clear h3 B1 C2;go_wp2_with fail;refine ax B2 λz4 h4=>?_;have B3:=C3 _ _ _ _ h4;have d8:=ab.cell (ab.kept a5.out h4.g pu) 8;clear h4 B2 C3 d7;go_wp2_with fail;refine ax B3 λz5 h5=>?_;have B4:=C4 _ _ _ _ h5;obtain ⟨e0,e1,_⟩:=h5.cells;clear h5 B3 C4 d8;go_wp2_with fail;refine ax B4 λz6 h6=>?_;have b4:=h6.new (aT z6 (.cells #[.int .u8 U] 5) none);have B5:=C5 _ _ _ _ b4;clear h6 b4 B4 C5 e0 e1;go_wp2_with fail;refine ax B5 λz7 h7=>?_;rcases HK.out with⟨a2,kQ⟩|⟨a2,lc,kQ⟩
 ·have c4:((M5.e:Int) !=0)=true:=by rw[dY];omega
  clear a2 C6 HK;obtain ⟨e0,e1,_⟩:=h7.cells;have a':=Hq (a6.out.kept h7.g pu);have b':=Hq (ai a4.out h7.g);have SK:∀W:World,z7.grownBy W (some w.heap.size)->W.cell? ⟨C.heap.size+1,1,none⟩=some (.int .i64 M5.e):=λW g=>ab.cell (ab.kept h7.mx g (λe=>by have:=aH e;have:=ab.lt a6.out;omega)) 1;have c7:w.heap.size<z7.heap.size:=ab.lt a'.out;clear h7 B5;go_wp2_with fail;have b0:eF 8 6 1002 (λa b=>a.grownBy b (some w.heap.size)) (λi _ zz=>cond i ((λb t c=>ab zz b t c) w.heap.size 246 [.string ⟨#[]⟩, .string ⟨#[]⟩]) ((λx=>ab x w.heap.size 246 [.string ⟨#[]⟩, .string ⟨#[]⟩]) zz)) []:=⟨λ_ _ h=>eo h,λ_ _ _=>ai,λi _ a b h g=>match i,h with|true,h=>ab.kept h g pu|false,h=>(λx y h g=>ab.kept h g pu) a b h g,True.intro,λ_=>True.intro,λe=>absurd e ut,qr⟩;apply gT b0 qr qr (a'.out);intro u0;iterate 6 (apply aX;rfl;(intro i I x J q P R o d r;first|(go_simp;exact aq)|(have c1:=SK x d;go_simp;exact aq));simp only[aA])
  apply pn b0 qr
  ·intro i I x J q P R o d r;obtain rfl:=q (Or.inl rfl);have u:(λx=>ab x w.heap.size 246 [.string ⟨#[]⟩, .string ⟨#[]⟩]) x:=r;dsimp only at u;have z0:=ab.cell u 0;have c3:=ab.cell u 1;have q0:=ab.frozen u 0;have q1:=ab.frozen u 1
   go_simp
   exact gw (aw (aw (ak _ _) 0 _) 1 _) ((u.set 0 _).set 1 _)
  simp only[aA];apply aX;rfl;·(intro i I x J q P R o d r;first|(go_simp;exact aq)|(have c1:=SK x d;go_simp;exact aq))
  simp only[aA];refine pz ?_;intro x d hR o;refine oD ?_;have b6:(λb t c=>ab x b t c) w.heap.size 246 [.string ⟨#[]⟩, .string ⟨#[]⟩]:=hR;have t0:=ab.cell b6 0;have t1:=ab.cell b6 1;go_wp2_with fail;refine bodyPost_ret (v:= .tuple #[.string ⟨#[]⟩, .agg #[.string ⟨#[]⟩, .string ⟨#[]⟩], .int .i64 M5.e]) (by simp[results,results179,go_sem,t0,t1]) rfl ?_;exact kQ _ _ ⟨rfl,cJ b'.out d (bm _)⟩
 have c0:=Hq a2;clear a2 HK;have b7:=h7;have h7:=h7.Ey c0.out;obtain ⟨e0,e1,_⟩:=h7.cells;have B6:=C6 _ _ _ _ b7;have H7:=Hq h7;clear h7 b7 B5 C6;go_wp2_with fail;refine ax B6 λz8 g8=>?_;have H8:=Hq (H7.out.new g8);clear H7 g8 B6 e0 e1;have a9:=Hq (a6.out.kept H8.out.g pu);have b8:=ab.kept a5.out H8.out.g pu;have SK:∀W:World,z8.grownBy W (some w.heap.size)->ab W hb 323 [.iface T (.agg #[]), .string ⟨f.h.toArray⟩, .string ⟨f.c.toArray⟩, .string ⟨f.k.toArray⟩, .int .u64 f.n, .int .i64 s, .int .u32 index, .string ⟨PO.toArray⟩, .string ⟨PS.toArray⟩]:=λW g=>b8.kept g pp
 have c8:w.heap.size<z8.heap.size:=ab.lt a9.out;clear b8;go_upto_region 14with(fail);have a7:eF 26 24 1002 (λa b=>a.grownBy b (some w.heap.size)) (λi _ zz=>cond i ((λb t c=>ab zz b t c) w.heap.size 246 [.string ⟨k2.toArray⟩, .string ⟨k1.toArray⟩]) ((λx=>ab x w.heap.size 246 [.string ⟨#[]⟩, .string ⟨#[]⟩]) zz)) [(5,λrr zz=>z8.heap.size<=rr.g/\ab zz rr.g 5 [.int .u8 2, .int .u8 s])]:=⟨λ_ _ h=>eo h,λ_ _ _=>ai,λi _ a b h g=>match i,h with|true,h=>ab.kept h g pu|false,h=>(λx y h g=>ab.kept h g pu) a b h g,⟨λ_ r0 _ _ h g=>⟨h.1,h.2.kept g pu⟩,True.intro⟩,λ_=>⟨λ_ r0 _ _ h g=>KR (λB e=>by simp at e;omega) h g,True.intro⟩,λe=>absurd e ut,qr⟩;apply gT a7 qr qr (a9.out);intro u0;iterate 5 (apply aX;rfl;(intro i I x J q P R o d r;first|(go_simp;exact aq)|(have l:=SK x d;have t5:=ab.cell l 5;have t6:=ab.cell l 6;clear l;go_simp;exact aq));simp only[aA])
 apply jy a7 (λrr=>(λg=> .slice (some ⟨g,0,none⟩) 2 2) rr.g) 0 rfl ut
 ·intro i I x J q P R o d r
  go_simp
  exact gp ⟨x.heap.size,undef⟩ (aT x _ none) ⟨d.size,ab.new x _ _⟩
 simp only[aA];apply aX;rfl
 ·intro i I x J q P R o d r;obtain ⟨l5,b5⟩:=o.at (k:=0) (j:=5) rfl qr;generalize (u0 5).g=g5 at*;have kc:=Mo 2 2 rfl c2 b5;unfold S at kc
  go_simp
  exact aq
 simp only[aA];apply aX;rfl;·(intro i I x J q P R o d r;first|(go_simp;exact aq)|(have l:=SK x d;have t5:=ab.cell l 5;have t6:=ab.cell l 6;clear l;go_simp;exact aq))
 simp only[aA];apply aX;rfl
 ·intro i I x J q P R o d r
  go_simp
  (with_reducible first|refine (A9 _).mono ?_|refine (A8 _).mono ?_)
  rintro e z ⟨rfl,gz⟩;exact gv gz
 simp only[aA];iterate 5 (apply aX;rfl;(intro i I x J q P R o d r;first|(go_simp;exact aq)|(have l:=SK x d;have t5:=ab.cell l 5;have t6:=ab.cell l 6;clear l;go_simp;exact aq));simp only[aA])
 apply aX;rfl
 ·intro i I x J q P R o d r
  go_simp
  (with_reducible first|refine (A9 _).mono ?_|refine (A8 _).mono ?_)
  rintro e z ⟨rfl,gz⟩;exact gv gz
 simp only[aA];iterate 9 (apply aX;rfl;(intro i I x J q P R o d r;first|(go_simp;exact aq)|(have l:=SK x d;have t5:=ab.cell l 5;have t6:=ab.cell l 6;clear l;go_simp;exact aq));simp only[aA])
 apply pn a7 qr
 ·intro i I x J q P R o d r;obtain rfl:=q (Or.inl rfl);have u:(λx=>ab x w.heap.size 246 [.string ⟨#[]⟩, .string ⟨#[]⟩]) x:=r;dsimp only at u;have z0:=ab.cell u 0;have c3:=ab.cell u 1;have q0:=ab.frozen u 0;have q1:=ab.frozen u 1
  go_simp
  exact gw (aw (aw (ak _ _) 0 _) 1 _) ((u.set 0 _).set 1 _)
 simp only[aA];apply aX;rfl;·(intro i I x J q P R o d r;first|(go_simp;exact aq)|(have l:=SK x d;have t5:=ab.cell l 5;have t6:=ab.cell l 6;clear l;go_simp;exact aq))
 simp only[aA];refine pz ?_;intro x d hR o;refine oD ?_;obtain ⟨l5,b5⟩:=o.at (k:=0) (j:=5) rfl;generalize (u0 5).g=g5 at*;have b3:(λb t c=>ab x b t c) w.heap.size 246 [.string ⟨k2.toArray⟩, .string ⟨k1.toArray⟩]:=hR;have t0:=ab.cell b3 0;have t1:=ab.cell b3 1;go_wp2_with fail;refine bodyPost_ret (v:= .tuple #[.string ⟨(2::UInt8.ofNat s::(ic++(ix++(PQ++vc)))).toArray⟩, .agg #[.string ⟨k2.toArray⟩, .string ⟨k1.toArray⟩], .int .i64 0]) (by simp[results,results179,go_sem,t0,t1]) rfl ?_;exact kQ _ _ ⟨rfl,cJ (ai a4.out H8.out.g) d (bm _)⟩
end
end Go.Proofs.YtmomfbkpniblgaaGreatDoor
