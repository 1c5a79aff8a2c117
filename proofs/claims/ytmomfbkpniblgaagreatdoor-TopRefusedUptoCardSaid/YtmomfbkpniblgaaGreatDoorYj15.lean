/- A part of this claim's proof. -/
import Derived.Test.YtmomfbkpniblgaaGreatDoorYj12
set_option linter.all false
set_option maxHeartbeats 4000000
set_option maxRecDepth 20000
namespace Go.Proofs.YtmomfbkpniblgaaGreatDoor
open Go.Proofs.Tryz
variable {u:Lb}{h:Ln}{a:Nat}
section
open Go.RowKit
def ZB (s:Ln)(i:Nat)(h:i<s.length):lg (s.take (i+1))=lg (s.take i)++aP (s.getD i 0) 4:=by rw[fP h];unfold lg;rw[qK,dh,aW h];simp
def aaR:Value->Nat
 | .string b=>b.size
 |_=>0
def vD(h:Ln)(u:Lb)(a:Nat)(X:Ln×Lb×Nat):Prop:=∃f,u.length<=64*f/\xK f h u a=X
def vD.more {X:Ln×Lb×Nat}(k:vD h u a X)(c:64<u.length):vD (kD h (u.take 64) (a+64) false) (u.drop 64) (a+64) X:=by
 obtain ⟨f,d,b⟩:=k;cases f with
 |zero=>omega
 |succ f=>rw[xK,av c]at b;exact ⟨f,by rw[aR];omega,b⟩
def vD.done {X:Ln×Lb×Nat}(k:vD h u a X)(c:¬64<u.length):X=(h,u,a):=by
 obtain ⟨f,d,b⟩:=k;cases f with
 |zero=>exact b.symm
 |succ f=>rw[xK,au c]at b;exact b.symm
def KM (h:Ln) b (many:Nat)(e:Bool)(f:h.length=8)(d:fl h)(hm:many<18446744073709551616):fl (kD h b many e):=by intro x c;unfold kD at c;simp only at c;obtain ⟨i,g,rfl⟩:=eS.1 c;have ok:=CA (KN h f d many hm e) (mM b 16) 10;exact gG (fS d i) (gG (fS ok.2 i) (fS ok.2 (i+8)))
def SV (key s:Lb)(b:key.length<=32):(nH key s).length<=s.length+64:=by
 unfold nH;split
 ·omega
 simp;omega
def Lp w (key s:Lb)(many:Nat)(hk:key.length<=32)(m1:1<=many)(m2:many<=32)(hs:s.length<=9223372036854775000):
 Calls prog 161 #[S key,S s, .int .i64 many] w (Grown (.tuple #[S (fx key s many), .int .i64 0]) w):=by
 obtain ⟨X,hX⟩:=kq (xK (nH key s).length (zF key.length many) (nH key s) 0);have P:vD (zF key.length many) (nH key s) 0 X:=⟨(nH key s).length,pm,hX.symm⟩;have b':fx key s many=(lg (kD X.1 (X.2.1++List.replicate (64-X.2.1.length) 0) (X.2.2+X.2.1.length) true)).take many:=by unfold fx;rw[<-hX]
 rw[b'];obtain ⟨V,hV⟩:=kq ((lg (kD X.1 (X.2.1++List.replicate (64-X.2.1.length) 0) (X.2.2+X.2.1.length) true)).take many);rw[<-hV];obtain ⟨kl,f',i1⟩:∃kl:Nat,kl=key.length*256/\kl<4294967296:=⟨_,rfl,pm⟩;obtain ⟨n1,e1,l1⟩:=pj 16842752 kl pm i1;obtain ⟨n2,e2,l2⟩:=pj n1 many l1 pm;obtain ⟨C,e3,l3⟩:=pj 1779033703 n2 pm l2;have hF:zF key.length many=[C,3144134277,1013904242,2773480762,1359893119,2600822924,528734635,1541459225]:=by unfold zF;rw[show fj.getD 0 0=1779033703from rfl,<-f',e1.1,e2.1,e3.1];rfl
 rw[hF]at P;have d8:([C,3144134277,1013904242,2773480762,1359893119,2600822924,528734635,1541459225]:Ln).map eZ=[.int .u32 C, .int .u32 3144134277, .int .u32 1013904242, .int .u32 2773480762, .int .u32 1359893119, .int .u32 2600822924, .int .u32 528734635, .int .u32 1541459225]:=by simp only[eZ,oC,tO,BH]
 have sF:fl [C,3144134277,1013904242,2773480762,1359893119,2600822924,528734635,1541459225]:=by intro x hx;simp only[bp,dD,dH]at hx;rcases hx with rfl|rfl|rfl|rfl|rfl|rfl|rfl|rfl<;>omega
 obtain ⟨h0,e6⟩:=kq ([C,3144134277,1013904242,2773480762,1359893119,2600822924,528734635,1541459225]);rw[<-e6]at P sF d8;have lF:h0.length=8:=by rw[e6];rfl
 have J:=SV key s hk;obtain ⟨-,e1⟩:=e1;obtain ⟨-,e2⟩:=e2;obtain ⟨-,e3⟩:=e3;replace e1:bits .xor .u32 16842752 (kl:Int)=(n1:Int):=e1;replace e3:bits .xor .u32 1779033703 (n2:Int)=(C:Int):=e3;have k1:¬((many:Int)<1):=pm
 have k2:¬((32:Int)<(many:Int)):=pm
 have k3:¬((32:Int)<(key.length:Int)):=pm
 have q1:((key.length:Int))%4294967296=(key.length:Int):=pm
 have q2:((many:Int))%4294967296=(many:Int):=pm
 have q3:((key.length:Int))*256%4294967296=(kl:Int):=pm
 have i2:((key.length:Int))*256=(kl:Int):=pm
 have q4:IntKind.u32.wrap (key.length:Int)=(key.length:Int):=pN _ pm;have q5:IntKind.u32.wrap (many:Int)=(many:Int):=pN _ pm;have HD:=Hq P;have HV:=Hq hV;have f3:=Hq sF;have f0:=Hq d8;have f2:=Hq lF;clear f' hX P b' hV hF e6 sF d8 lF;unfold S;go_enter func161,ntmps161;go_wp2_with fail;refine ax (LV _) λx1 I=>?_;have f1:=Hq I;clear I;go_upto_region 5with(fail);clear e1 e2 e3 k1 k2 k3 q1 q2 q3 i2 q4 q5;obtain ⟨H,hH⟩:=kq x1.heap.size;obtain ⟨y,hy⟩:=kq (x1.alloc (.cells #[.int .u32 C, .int .u32 3144134277, .int .u32 1013904242, .int .u32 2773480762, .int .u32 1359893119, .int .u32 2600822924, .int .u32 528734635, .int .u32 1541459225] 289));have bH:HB y H 289 h0:=by rw[hy,hH];unfold HB;rw[f0.out];exact aO _ _
 have f8:w.grownBy y none:=by rw[hy];exact aF f1.out _
 have f:w.heap.size<=H:=by rw[hH];exact f1.out.size
 rw[<-hH,<-hy];have a8:=Hq bH;have a9:=Hq f8;clear hH hy bH f8 f0;have r1:=eD;have r2:=dP;have g6:(key=[]/\nH key s=s)\/(key≠[]/\nH key s=key++cI (64-key.length)++s):=by
  by_cases h:key=[]
  ·left;exact ⟨h,by unfold nH;rw[av h]⟩
  right;exact ⟨h,by unfold nH;rw[au h];rfl⟩
 obtain ⟨T,R⟩:=kq (nH key s);rw[<-R]at J HD g6;clear R;rcases g6 with⟨rfl,rfl⟩|⟨g2,d'⟩;all_goals
  first
   |(have g3:key.isEmpty=false:=by rw[ou];exact g2
     have h7:(!key.isEmpty)=true:=(by rw[g3];rfl);have z1:(64:Int)-(key.length:Int)=((64-key.length:Nat):Int):=pm;have U:=Bh (64-key.length);have AR:∀W:World,Calls prog 62 #[.string ⟨#[0]⟩, .int .i64 (64-key.length:Nat)] W (Grown (S (cI (64-key.length))) W):=λW=>yt W (64-key.length) pm;rw[dM]at d';have f4:=Hq d';have lk:key.length+(cI (64-key.length)).length<=9223372036854775807:=(by rw[U];omega);have h9:(key++cI (64-key.length)).length+s.length<=9223372036854775807:=(by rw[aK,U];omega);have i0:key.length+(cI (64-key.length)).length+s.length<=9223372036854775807:=(by rw[U];omega);clear d' U;unfold S at AR;go_wp2_with fail;refine ax (AR _) λx2 e4=>?_;have a8:=Hq (show HB x2 H 289 h0 from ab.kept a8.out e4 nofun);have a9:=Hq (ai a9.out e4);clear e4;go_upto_region 7with(fail);rw[<-f4.out];clear g3 h7 z1 AR f4 lk h9 i0 g2)
   |(go_upto_region 7with(fail)
     obtain ⟨x2,e8⟩:=kq y;rw[<-e8];rw[<-e8]at a8 a9;clear e8)
 all_goals
  have g7:T.length<=9223372036854775100:=pm
  clear J;go_wp2_with fail;go_loopw [1,9] (λv1 v9 wr=>∃(d:Ln) (u:Lb) (a:Nat),v1= .string ⟨u.toArray⟩/\v9= .int .u64 a/\Hid (HB wr H 289 d)/\Hid (d.length=8)/\Hid (fl d)/\Hid (vD d u a X)/\u.length<=9223372036854775100/\a+u.length<=9223372036854775100/\Hid (w.grownBy wr none)) (λv1 _ _=>aaR v1)
  case atStart=>exact ⟨h0,T,0,rfl,rfl,a8,f2,f3,HD,g7,pm,a9⟩
  case round=>
   clear a8 f2 f3 HD a9 g7;obtain ⟨d,u,a,rfl,rfl,hB,hl,c8,P,lu,la,hg⟩:=hrel;obtain ⟨a0,a1,a2,a3,a4,a5,a6,a7,es⟩:=eight hl.out;have c':=hB.out;rw[es]at c';obtain ⟨c0,c1,c2,c3,c4,c5,c6,c7⟩:=c'.eight;have hA:fV d= .agg #[.int .u32 a0, .int .u32 a1, .int .u32 a2, .int .u32 a3, .int .u32 a4, .int .u32 a5, .int .u32 a6, .int .u32 a7]:=(by rw[es];rfl);have ES:=Hq es;clear c' es;by_cases g1:64<u.length
   ·have k:∀W:World,Calls prog 210 #[fV d,S (u.take 64), .int .u64 ((a:Int)+64), .bool false] W (Grown (fV (kD d (u.take 64) (a+64) false)) W):=λW=>by have:=Lo W d (u.take 64) (a+64) false hl.out c8.out (by rw[aJ];omega) pm;rw[show(((a+64:Nat)):Int)=(a:Int)+64from pm]at this;exact this
    have f5:=Hq (P.out.more g1);have J:=FN d (u.take 64) (a+64) false;have sT:=Hq (KM d (u.take 64) (a+64) false hl.out c8.out pm);generalize kD d (u.take 64) (a+64) false=c at*;obtain ⟨l,m,o,p,q,r,t,v,eT⟩:=eight J;have R:fV c= .agg #[.int .u32 l, .int .u32 m, .int .u32 o, .int .u32 p, .int .u32 q, .int .u32 r, .int .u32 t, .int .u32 v]:=(by rw[eT];rfl);rw[hA,R]at k;unfold S at k;have ET:=Hq eT;have LT:=Hq J;clear hA R eT J;have q1:(64:Int)<(u.length:Int):=pm;have q2:decide ((64:Int)<(u.length:Int))=true:=by simpa using q1
    have q3:(64:Int)<=(u.length:Int):=pm;have i5:List.take (u.length-64) (List.drop 64 u)=u.drop 64:=cE (by rw[aR];omega);go_wp2_with fail;go_region_with (first
     |(go_at_call 210;(with_reducible refine (k _).mono ?_);rintro e x3 ⟨rfl,I⟩;have b:=ab.kept (Hs hB.out) I nofun;have k0:=ab.frozen b 0;have k1:=ab.frozen b 1;have k2:=ab.frozen b 2;have k3:=ab.frozen b 3;have k4:=ab.frozen b 4;have k5:=ab.frozen b 5;have k6:=ab.frozen b 6;have k7:=ab.frozen b 7;have z:=b;rw[ES.out]at z;obtain ⟨n0,n1,n2,C,n4,n5,n6,n7⟩:=HB.eight z;clear z))
    all_goals
     have h3:HB ((((((((x3.setCell ⟨H,0,none⟩ (.int .u32 l)).setCell ⟨H,1,none⟩ (.int .u32 m)).setCell ⟨H,2,none⟩ (.int .u32 o)).setCell ⟨H,3,none⟩ (.int .u32 p)).setCell ⟨H,4,none⟩ (.int .u32 q)).setCell ⟨H,5,none⟩ (.int .u32 r)).setCell ⟨H,6,none⟩ (.int .u32 t)).setCell ⟨H,7,none⟩ (.int .u32 v)) H 289 c:=by
      have z:HB x3 H 289 [a0,a1,a2,a3,a4,a5,a6,a7]:=by have:=b;rw[ES.out]at this;exact this
      rw[ET.out];exact (((((((z.set 0 l).set 1 m).set 2 o).set 3 p).set 4 q).set 5 r).set 6 t).set 7 v
     have b8:w.grownBy ((((((((x3.setCell ⟨H,0,none⟩ (.int .u32 l)).setCell ⟨H,1,none⟩ (.int .u32 m)).setCell ⟨H,2,none⟩ (.int .u32 o)).setCell ⟨H,3,none⟩ (.int .u32 p)).setCell ⟨H,4,none⟩ (.int .u32 q)).setCell ⟨H,5,none⟩ (.int .u32 r)).setCell ⟨H,6,none⟩ (.int .u32 t)).setCell ⟨H,7,none⟩ (.int .u32 v)) none:=
      cj (cj (cj (cj (cj (cj (cj (cj (ai (aM hg.out) I) _ f _) _ f _) _ f _) _ f _) _ f _) _ f _) _ f _) _ f _
     have H3:=Hq h3;have b9:=Hq b8;clear h3 b8 n0 n1 n2 C n4 n5 n6 n7 k0 k1 k2 k3 k4 k5 k6 k7 b I hg hB P;generalize ((((((((x3.setCell ⟨H,0,none⟩ (.int .u32 l)).setCell ⟨H,1,none⟩ (.int .u32 m)).setCell ⟨H,2,none⟩ (.int .u32 o)).setCell ⟨H,3,none⟩ (.int .u32 p)).setCell ⟨H,4,none⟩ (.int .u32 q)).setCell ⟨H,5,none⟩ (.int .u32 r)).setCell ⟨H,6,none⟩ (.int .u32 t)).setCell ⟨H,7,none⟩ (.int .u32 v))=x5 at*;clear k c0 c1 c2 c3 c4 c5 c6 c7;go_wp2;go_roundw
     case rel=>
      first
       |exact ⟨c,u.drop 64,a+64,rfl,by first|rfl|(rw[show(((a+64:Nat)):Int)=(a:Int)+64from pm]),H3,LT,sT,f5,by rw[aR];omega,by rw[aR];omega,b9⟩
       |((repeat apply Exists.intro)
         refine ⟨?_,rfl⟩;exact ⟨c,u.drop 64,a+64,rfl,by first|rfl|(rw[show(((a+64:Nat)):Int)=(a:Int)+64from pm]),H3,LT,sT,f5,by rw[aR];omega,by rw[aR];omega,b9⟩)
     case measure=>show(u.drop 64).toArray.size<u.toArray.size;rw[qM,qM,aR];omega
   have hX:=P.out.done g1;have U:=Bh (64-u.length);have z1:(64:Int)-(u.length:Int)=((64-u.length:Nat):Int):=pm;have AR:∀W:World,Calls prog 62 #[.string ⟨#[0]⟩, .int .i64 (64-u.length:Nat)] W (Grown (S (cI (64-u.length))) W):=λW=>yt W (64-u.length) pm;have k:∀W:World,Calls prog 210 #[fV d,S (u++cI (64-u.length)), .int .u64 ((a:Int)+(u.length:Int)), .bool true] W (Grown (fV (kD d (u++cI (64-u.length)) (a+u.length) true)) W):=λW=>by have:=Lo W d (u++cI (64-u.length)) (a+u.length) true hl.out c8.out (by rw[aK,U];omega) pm;rw[show(((a+u.length:Nat)):Int)=(a:Int)+(u.length:Int)from pm]at this;exact this
   have hV:V=(lg (kD d (u++cI (64-u.length)) (a+u.length) true)).take many:=(by rw[HV.out,hX];rfl);have J:=FN d (u++cI (64-u.length)) (a+u.length) true;have sT:=Hq (KM d (u++cI (64-u.length)) (a+u.length) true hl.out c8.out pm);have lk:u.length+(cI (64-u.length)).length<=9223372036854775807:=(by rw[U];omega);generalize kD d (u++cI (64-u.length)) (a+u.length) true=c at*;generalize cI (64-u.length)=Zu at*;obtain ⟨l,m,o,p,q,r,t,v,eT⟩:=eight J;have R:fV c= .agg #[.int .u32 l, .int .u32 m, .int .u32 o, .int .u32 p, .int .u32 q, .int .u32 r, .int .u32 t, .int .u32 v]:=(by rw[eT];rfl);rw[hA,R]at k;unfold S at k AR;have ET:=Hq eT;have LT:=Hq J;have g':=Hq hV;clear hA R eT J hX hV U;have q1:¬((64:Int)<(u.length:Int)):=pm;have q2:decide ((64:Int)<(u.length:Int))=false:=by simpa using q1
   have w1:IntKind.u64.wrap (u.length:Int)=(u.length:Int):=dE _ pm;have w2:IntKind.u64.wrap ((a:Int)+(u.length:Int))=(a:Int)+(u.length:Int):=dE _ pm;have w3:IntKind.i64.wrap ((64-u.length:Nat):Int)=((64-u.length:Nat):Int):=dG _ pm;go_wp2_with fail;go_region_with (first
    |(go_at_call 62;(with_reducible refine (AR _).mono ?_);rintro e xr ⟨rfl,e5⟩;have d9:=ab.kept (Hs hB.out) e5 nofun;have e7:=d9;rw[ES.out]at e7;obtain ⟨m0,m1,m2,m3,m4,m5,m6,m7⟩:=HB.eight e7;clear e7)
    |(go_at_call 210;(with_reducible refine (k _).mono ?_);rintro e x3 ⟨rfl,I⟩;have b:=ab.kept d9 I nofun;have k0:=ab.frozen b 0;have k1:=ab.frozen b 1;have k2:=ab.frozen b 2;have k3:=ab.frozen b 3;have k4:=ab.frozen b 4;have k5:=ab.frozen b 5;have k6:=ab.frozen b 6;have k7:=ab.frozen b 7;have z:=b;rw[ES.out]at z;obtain ⟨n0,n1,n2,C,n4,n5,n6,n7⟩:=HB.eight z;clear z))
   all_goals
    have h3:HB ((((((((x3.setCell ⟨H,0,none⟩ (.int .u32 l)).setCell ⟨H,1,none⟩ (.int .u32 m)).setCell ⟨H,2,none⟩ (.int .u32 o)).setCell ⟨H,3,none⟩ (.int .u32 p)).setCell ⟨H,4,none⟩ (.int .u32 q)).setCell ⟨H,5,none⟩ (.int .u32 r)).setCell ⟨H,6,none⟩ (.int .u32 t)).setCell ⟨H,7,none⟩ (.int .u32 v)) H 289 c:=by
     have z:HB x3 H 289 [a0,a1,a2,a3,a4,a5,a6,a7]:=by have:=b;rw[ES.out]at this;exact this
     rw[ET.out];exact (((((((z.set 0 l).set 1 m).set 2 o).set 3 p).set 4 q).set 5 r).set 6 t).set 7 v
    have b8:w.grownBy ((((((((x3.setCell ⟨H,0,none⟩ (.int .u32 l)).setCell ⟨H,1,none⟩ (.int .u32 m)).setCell ⟨H,2,none⟩ (.int .u32 o)).setCell ⟨H,3,none⟩ (.int .u32 p)).setCell ⟨H,4,none⟩ (.int .u32 q)).setCell ⟨H,5,none⟩ (.int .u32 r)).setCell ⟨H,6,none⟩ (.int .u32 t)).setCell ⟨H,7,none⟩ (.int .u32 v)) none:=
     cj (cj (cj (cj (cj (cj (cj (cj (ai (ai (aM hg.out) e5) I) _ f _) _ f _) _ f _) _ f _) _ f _) _ f _) _ f _) _ f _
    have H3:=Hq h3;have b9:=Hq b8;clear h3 b8 n0 n1 n2 C n4 n5 n6 n7 m0 m1 m2 m3 m4 m5 m6 m7 k0 k1 k2 k3 k4 k5 k6 k7 d9 e5 b I hg hB P;generalize ((((((((x3.setCell ⟨H,0,none⟩ (.int .u32 l)).setCell ⟨H,1,none⟩ (.int .u32 m)).setCell ⟨H,2,none⟩ (.int .u32 o)).setCell ⟨H,3,none⟩ (.int .u32 p)).setCell ⟨H,4,none⟩ (.int .u32 q)).setCell ⟨H,5,none⟩ (.int .u32 r)).setCell ⟨H,6,none⟩ (.int .u32 t)).setCell ⟨H,7,none⟩ (.int .u32 v))=x5 at*;clear k AR c0 c1 c2 c3 c4 c5 c6 c7 q1 q2 w1 w2 w3 z1 lk r1 r2;have h4:=H3.out;rw[ET.out]at h4;obtain ⟨d0,d1,d2,d3,d4,d5,d6,d7⟩:=h4.eight;have ix:∀(W:World) (i:Nat),i<8->(Instr.index 289 (.agg #[.int .u32 l, .int .u32 m, .int .u32 o, .int .u32 p, .int .u32 q, .int .u32 r, .int .u32 t, .int .u32 v]) (.int .i64 i)).run prog W= .ok (.int .u32 (c.getD i 0:Nat)) W:=λW i hi=>
     Je W 289 33 8 _ i _ underlying289 Af qr hi (by have:(#[.int .u32 l, .int .u32 m, .int .u32 o, .int .u32 p, .int .u32 q, .int .u32 r, .int .u32 t, .int .u32 v]:Array Value)=(c.map eZ).toArray:=(by rw[ET.out];rfl);rw[this,EO,fQ,getD_some c i (by rw[LT.out];exact hi)];rfl)
    have IX:=Hq ix;have e':=Hq (mO x5 x5.heap.size);clear h4 ix;go_wp2_with fail;clear d0 d1 d2 d3 d4 d5 d6 d7;go_loopw [10,73] (λi3 e9 wr=>∃i:Nat,i<=8/\e9= .int .i64 i/\Hid (dq wr x5.heap.size i3 (lg (c.take i)))/\Hid (Below x5.heap.size x5 wr)) (λ_ e9 _=>8-(intOf e9).toNat)
    case atStart=>exact ⟨0,pm,rfl,e',Hq (qS _ _)⟩
    case round=>
     clear e';obtain ⟨i,hi,rfl,hb,a'⟩:=hrel;by_cases g0:i<8
     ·have ix:=λW=>IX.out W i g0;have ls:=fS sT.out i;have g5:=ZB c i (by rw[LT.out];exact g0);have k:=pD wr x5.heap.size u10 (lg (c.take i)) (c.getD i 0) 4 hb.out pm pm (by rw[Im,aJ];omega) a'.out.size;rw[<-g5]at k;have A2:Calls prog 96 #[u10, .int .u64 (c.getD i 0:Nat), .int .i64 4] wr (oG wr x5.heap.size (lg (c.take (i+1)))):=k;clear g5 k;generalize c.getD i 0=n at*;have wn:IntKind.u64.wrap (n:Int)=(n:Int):=dE _ pm;have i4:decide ((i:Int)<8)=true:=pp;go_wp2_with fail;refine A2.mono ?_;rintro e x6 ⟨v',rfl,f6,f7⟩;have g8:=Hq f6;have g9:=Hq (a'.out.trans f7);clear A2 hb a' f6 f7 ix;go_wp2;go_roundw
      case rel=>exact ⟨i+1,pm,by go_num,g8,g9⟩
      case measure=>simp[intOf];omega
     obtain rfl:i=8:=pm;have e0:=hb.out;rw[cE (by rw[LT.out];omega)]at e0;have lD:(lg c).length=32:=(by rw[Im,LT.out]);have h1:=KV e0 (bm _) (by intro e;rw[e]at lD;simp at lD);obtain ⟨g,c9,hv,i6,i7,i8,h8,h5,h6⟩:=h1;have g4:gM wr g ((lg c).take many):=λj hj=>by
      have f9:j<(lg c).length:=by rw[aJ]at hj;omega
      refine ⟨?_,(h5 j f9).2⟩;rw[(h5 j f9).1,Fe]
     have lM:((lg c).take many).length=many:=(by rw[aJ,lD];omega);have h2:=nJ g4 c9;rw[lM,<-g'.out]at h2;have b':=Hq (ai b9.out (iU a'.out));subst hv;rw[lD];have c1:(many:Int)<=(c9:Int):=pm;have c2:(0:Int)<=(many:Int):=pm;have c3:(c9:Int)<=9223372036854775807:=by unfold maxLen at h8;omega
     clear hb a' e0 h5 h6 g4 lM lD IX;go_wp2;go_ret2;exact ⟨rfl,b'.out⟩
end
end Go.Proofs.YtmomfbkpniblgaaGreatDoor
