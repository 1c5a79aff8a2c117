/- A part of this claim's proof. -/
import Derived.Test.YtmomfbkpniblgaaGreatDoorYj08
import Derived.Laws.MakeOwn
import Derived.Laws.Externs
import Derived.Deep.RegionHeld3
import Derived.Deep.RegionWith
import Derived.Laws.BitsAllLaws
import Derived.Deep.DeepCutAuto
import Derived.Deep.Cut
import Derived.StillTailTactics
import Derived.Lib.LazyBuf
import Derived.Deep.DrawnRows
import Derived.BigRegion
import Derived.Lib.Builder
import Derived.Lib.AppendStr
set_option linter.all false
set_option maxHeartbeats 2000000
set_option maxRecDepth 100000
namespace Go.Proofs.YtmomfbkpniblgaaGreatDoor
open Go.Proofs.Tryz
variable {a a0:Act}{K:Act->World->Prop}{ops:Array Oper}{Q:Exit->Act->World->Prop}{ls:List Lb}{D W l:Ln}{B M d f h i j k n p q u v y:Nat}{L:Nat->Bool}{o:Oper}{r:Option Nat}{P:Program}{t:TypeId}{c:Value}{w w' w0 wb:World}
section
open Go.RowKit
def np(w:World)(base:Nat)(v:Value)(ls:List Lb):Prop:=w.ownsRow base 9 1 v ls.length (ls.map S)
def YT:(prog.info? 9).map (λi=>(i.zero,i.size,i.bytes))=some (some (.string ⟨#[]⟩),1,16):=qr
def wL {base:Nat}{v}(h:np w base v ls)(I:ls≠[]):
 ∃g b,v= .slice (some ⟨g,0,none⟩) ls.length b/\base<=g/\g<w.heap.size/\ls.length<=b/\b<=maxLen/\∀i (m:i<ls.length),w.cell? ⟨g,i,none⟩=some (S ls[i]):=by
 have h0:=h;unfold np at h;rcases h.2with⟨_,J⟩|⟨g,b,a1,U,x,C,R,z,a2,a3⟩
 ·exact absurd (pG J) I
 subst U;refine ⟨g,b,rfl,x,kE C,R,z,λi m=>?_⟩;have s:(ls.map S)[i]?=some (S ls[i]):=by simp[m]
 have e:=h.cells (g:=g) rfl i _ s;rw[show(⟨g,0,none⟩:Addr).add i=⟨g,i,none⟩from by cases i<;>simp[Addr.add]]at e;exact e
def np.kept {base:Nat}{v}(h:np w base v ls)(g:w.grownBy w' r)(b:v.ownBlock=none\/v.ownBlock≠r):np w' base v ls:=tF h g b
def np.uz {base:Nat}{v}(h:np w base v ls)(g:w.grownBy w' none):np w' base v ls:=tF h g (by cases v.ownBlock<;>simp)
def Es {base:Nat}{v}{c}{s:Nat×Nat}(h:np w base v ls)(b:w.heap[k]?=some (.cells c t s))(C:t≠9):v.ownBlock≠some k:=by
 intro e;rcases h.2with⟨m,_⟩|⟨g,J,R,I,U,z,_⟩
 ·rw[m]at e;cases e
 rw[I]at e;obtain rfl:g=k:=by simpa[Value.ownBlock]using e
 rw[z]at b;injection b with b;injection b with _ x _;exact C x.symm
def hJ(b:Nat):Value:=if b=1then .iface 356 (.agg #[])else .iface 357 (.agg #[])
def cF(b n:Nat):Lb:=[0,0,0,0]++(if b=1then aP n 8 else bo n 8)
def ki (b n:Nat):(cF b n).length=12:=by unfold cF;split<;>simp[gE,fw]
def Gt w:Calls prog 216 #[ar 1] w λe w'=>e= .returned (hJ 1)/\w=w':=by go_enter func216,ntmps216;go_wp2;go_ret;exact ⟨rfl,rfl⟩
def Gu w:Calls prog 216 #[ar 2] w λe w'=>e= .returned (hJ 2)/\w=w':=by go_enter func216,ntmps216;go_wp2;go_ret;exact ⟨rfl,rfl⟩
def KW (w:World):dq (w.alloc (.cells #[aB 0,aB 0,aB 0,aB 0] 5)) w.heap.size (.slice (some ⟨w.heap.size,0,none⟩) 4 4) [0,0,0,0]:=
 ⟨rfl,Or.inr ⟨w.heap.size,4,_,rfl,bm _,aO w _,bm _,by unfold maxLen;omega,rfl,rfl⟩⟩
def Hr {a b c:World}(h:a.grownBy b none)(k:Below B b c)(g:a.heap.size<=B):a.grownBy c none:=
 ⟨k.os.trans h.os,k.tape.trans h.tape,k.output.trans h.output,bJ h.size k.size,λi e m=>(k.block i (fW e g)).trans (h.block i e m)⟩
def OO (W:World):(Instr.makeSlice 83 (ar 4) (ar 4)).run prog W= .ok (.slice (some ⟨W.heap.size,0,none⟩) 4 4) (W.alloc (.cells #[aB 0,aB 0,aB 0,aB 0] 5)):=by
 obtain ⟨x,g,m,b,s⟩:=mF Ag;have h:=run_makeSlice (P:=prog) W 83 5 x (aB 0) underlying83 g m .i64 .i64 4 4 pm pm (by rw[b];decide) (by rw[s];decide) pm;rw[h,b];have e:Array.range 4=#[0,1,2,3]:=ut
 simp[madeCells,Value.cells,e]
def zM w (n:Nat)(hn:n<18446744073709551616):Calls prog 312 #[.agg #[],cM n] w (Grown (S (cF 1 n)) w):=by
 have m:∀(W:World) (b:Nat) (v:Value),dq W b v [0,0,0,0]->b<=W.heap.size->Calls prog 96 #[v,cM n,ar 8] W (mH W b (cF 1 n)):=λW b v U h2=>pD W b v [0,0,0,0] n 8 U hn pm pu h2;have M:=OO (w.alloc (.cells #[] 356));have s:=KW (w.alloc (.cells #[] 356));have g:=m _ _ _ s pu;have z:Hid (w.grownBy ((w.alloc (.cells #[] 356)).alloc (.cells #[aB 0,aB 0,aB 0,aB 0] 5)) none):=Hq (aF (aT _ _ _) _);have C:(w.alloc (.cells #[] 356)).heap.size=w.heap.size+1:=pu
 rw[C]at g;generalize cF 1 n=V at*;clear m s C;unfold S;go_enter func312,ntmps312;go_wp2_with fail;refine g.mono ?_;rintro e x ⟨v,rfl,I,J⟩;have a1:=jL I;unfold S at a1;have R:=Hq (Hr z.out J pm);clear I J g z M;go_wp2;go_ret;exact ⟨rfl,R.out⟩
def zQ w (n:Nat)(hn:n<18446744073709551616):Calls prog 316 #[.agg #[],cM n] w (Grown (S (cF 2 n)) w):=by
 have m:∀(W:World) (b:Nat) (v:Value),dq W b v [0,0,0,0]->b<=W.heap.size->Calls prog 70 #[v,cM n,ar 8] W (mH W b (cF 2 n)):=λW b v U h2=>pC W b v [0,0,0,0] n 8 U hn pm pm pu h2;have M:=OO (w.alloc (.cells #[] 357));have s:=KW (w.alloc (.cells #[] 357));have g:=m _ _ _ s pu;have z:Hid (w.grownBy ((w.alloc (.cells #[] 357)).alloc (.cells #[aB 0,aB 0,aB 0,aB 0] 5)) none):=Hq (aF (aT _ _ _) _);have C:(w.alloc (.cells #[] 357)).heap.size=w.heap.size+1:=pu
 rw[C]at g;generalize cF 2 n=V at*;clear m s C;unfold S;go_enter func316,ntmps316;go_wp2_with fail;refine g.mono ?_;rintro e x ⟨v,rfl,I,J⟩;have a1:=jL I;unfold S at a1;have R:=Hq (Hr z.out J pm);clear I J g z M;go_wp2;go_ret;exact ⟨rfl,R.out⟩
def Md w key nonce more text a (n:Int)(C:∀W:World,Calls prog 101 #[S key,S nonce,S more,S text] W (Grown (.tuple #[S a,ar n]) W)):
 Calls prog 314 #[.agg #[],S key,S nonce,S more,S text] w (Grown (.tuple #[S a,ar n]) w):=by
 have b:=C (w.alloc (.cells #[] 356));clear C;unfold S at*;go_enter func314,ntmps314;go_wp2_with fail;refine ax b λx e=>?_;go_wp2;go_ret2;exact ⟨rfl,ai (aT _ _ _) e⟩
def Gn w key nonce more text a (n:Int)(C:∀W:World,Calls prog 103 #[S key,S nonce,S more,S text] W (Grown (.tuple #[S a,ar n]) W)):
 Calls prog 313 #[.agg #[],S key,S nonce,S more,S text] w (Grown (.tuple #[S a,ar n]) w):=by
 have b:=C (w.alloc (.cells #[] 356));clear C;unfold S at*;go_enter func313,ntmps313;go_wp2_with fail;refine ax b λx e=>?_;go_wp2;go_ret2;exact ⟨rfl,ai (aT _ _ _) e⟩
def Me w key nonce more text a (n:Int)(C:∀W:World,Calls prog 102 #[S key,S nonce,S more,S text] W (Grown (.tuple #[S a,ar n]) W)):
 Calls prog 318 #[.agg #[],S key,S nonce,S more,S text] w (Grown (.tuple #[S a,ar n]) w):=by
 have b:=C (w.alloc (.cells #[] 357));clear C;unfold S at*;go_enter func318,ntmps318;go_wp2_with fail;refine ax b λx e=>?_;go_wp2;go_ret2;exact ⟨rfl,ai (aT _ _ _) e⟩
def Gp w key nonce more text a (n:Int)(C:∀W:World,Calls prog 104 #[S key,S nonce,S more,S text] W (Grown (.tuple #[S a,ar n]) W)):
 Calls prog 317 #[.agg #[],S key,S nonce,S more,S text] w (Grown (.tuple #[S a,ar n]) w):=by
 have b:=C (w.alloc (.cells #[] 357));clear C;unfold S at*;go_enter func317,ntmps317;go_wp2_with fail;refine ax b λx e=>?_;go_wp2;go_ret2;exact ⟨rfl,ai (aT _ _ _) e⟩
def ng(r:Nat):Nat->Nat->Lb->Nat
 |0,a,_=>a
 |f+1,a,t=>if t=[]then a else ng r f (tr (a+aQ (t.take 16++[1])) r) (t.drop 16)
def DZ(key:Lb):Nat:=(aQ (key.take 8)&&&1152921487695413247)+18446744073709551616*(aQ ((key.drop 8).take 8)&&&1152921487695413244)
def wA(key:Lb):Nat:=aQ ((key.drop 16).take 8)+18446744073709551616*aQ ((key.drop 24).take 8)
def yq(key b:Lb):Nat:=uI (ng (DZ key) (b.length+1) 0 b)
def yG(key b:Lb):Lb:=aP ((yq key b+wA key)%18446744073709551616) 8++aP ((yq key b+wA key)/18446744073709551616%18446744073709551616) 8
def PF (r:Nat):∀(f g a:Nat) (t:Lb),t.length<f->t.length<g->ng r f a t=ng r g a t
 |0,_,_,_,h,_=>by omega
 |_,0,_,_,_,h=>by omega
 |f+1,g+1,a,t,b,e=>by
  unfold ng;by_cases h:t=[]
  ·rw[av h,av h]
  rw[au h,au h];have m:0<t.length:=tE.mpr h;exact PF r f g _ _ (by rw[aR];omega) (by rw[aR];omega)
def J2 (r a:Nat)(t:Lb)(h:0<t.length):ng r (t.length+1) a t=ng r ((t.drop 16).length+1) (tr (a+aQ (t.take 16++[1])) r) (t.drop 16):=by
 have b:t≠[]:=tE.mp h;conv=>lhs;unfold ng
 rw[au b];exact PF r _ _ _ _ (by rw[aR];omega) pm
def J1 (r a:Nat):ng r (([]:Lb).length+1) a []=a:=by simp[ng]
def Al:∀l r:Lb,aQ (l++r)=aQ l+256^l.length*aQ r
 |[],r=>by simp[aQ]
 |c::l,r=>by have:=Al l r;simp only[pL,aQ,this,eI,je];rw[Nat.mul_add,<-nC,jH (256^l.length) 256,BV]
def ZF (p:Lb):aQ p=aQ (p.take 8)+18446744073709551616*aQ ((p.drop 8).take 8)+340282366920938463463374607431768211456*aQ (p.drop 16):=by
 have b:p=p.take 8++((p.drop 8).take 8++p.drop 16):=by have m:=pJ 8 p;have g:=pJ 8 (p.drop 8);rw[vx]at g;rw[g,m]
 by_cases q:16<=p.length
 ·have e:(p.take 8).length=8:=by rw[aJ];omega
  have s:((p.drop 8).take 8).length=8:=by rw[aJ,aR];omega
  conv=>lhs;rw[b]
  rw[Al,Al,e,s];omega
 have x:p.drop 16=[]:=iP pm;rw[x]at b⊢;rw[ev]at b;by_cases I:8<=p.length
 ·have e:(p.take 8).length=8:=by rw[aJ];omega
  conv=>lhs;rw[b]
  rw[Al,e];simp[aQ]
 have z:p.drop 8=[]:=iP pm;have C:p.take 8=p:=cE pm;rw[z,C];simp[aQ]
def O6 (f b:Lb)(e:b=f++[1])(x:f.length<=16):
 N3 (aQ b)= .agg #[cM (aQ (b.take 8)),cM (aQ ((b.drop 8).take 8)),cM (if f.length=16then 1 else 0:Nat)]:=by
 have g:aQ (b.take 8)<18446744073709551616:=te _ (by rw[aJ];omega);have m:aQ ((b.drop 8).take 8)<18446744073709551616:=te _ (by rw[aJ];omega);have s:aQ (b.drop 16)=if f.length=16then 1 else 0:=by
  by_cases h:f.length=16
  ·rw[av h,e,<-h,List.drop_left];rfl
  rw[au h,e,iP pp];rfl
 rw[ZF b,s];exact vH _ _ _ g m (by split<;>omega)
def O7 (f b:Lb)(e:b=f++[1])(g:f.length<8):aQ ((b.drop 8).take 8)=0:=by rw[e,iP pp];rfl
def O5 (f b:Lb)(e:b=f++[1])(g:f.length<=16):aQ b<87112285931760246646623899502532662132736:=by have h:=wh b;have:256^b.length<=256^17:=lI pm (by rw[e];simp;omega);exact fW h this
def Kv (x y c:Nat)(b:c<=1)(w:World):(callFunc 142 #[.int .u64 x, .int .u64 y, .int .u64 c]).run prog w=
 .ok (.value (.tuple #[.int .u64 ((x+y+c)%18446744073709551616:Nat), .int .u64 ((x+y+c)/18446744073709551616:Nat)])) w:=by
 rw[EV func142 qr qr qr (e:=add64Entry) qr,run_add64 x y c pm pm pm pm];simp only[Result.andThen];congr 5<;>omega
def Fy (x y c:Nat)(b:c<=1)(e:x<18446744073709551616)(g:y<18446744073709551616):∃s d:Nat,s=(x+y+c)%18446744073709551616/\d=(x+y+c)/18446744073709551616/\d<=1/\
 ∀w:World,(callFunc 142 #[.int .u64 x, .int .u64 y, .int .u64 c]).run prog w= .ok (.value (.tuple #[.int .u64 s, .int .u64 d])) w:=
 ⟨_,_,rfl,rfl,pm,λw=>Kv x y c b w⟩
def sH w (x y:Nat):Calls prog 93 #[N3 x,N3 y] w (Grown (N3 (x+y)) w):=by
 have a1:∀e g m c0 c1:Nat,e=(x%18446744073709551616+y%18446744073709551616+0)%18446744073709551616->c0=(x%18446744073709551616+y%18446744073709551616+0)/18446744073709551616->
  g=(x/18446744073709551616%18446744073709551616+y/18446744073709551616%18446744073709551616+c0)%18446744073709551616->c1=(x/18446744073709551616%18446744073709551616+y/18446744073709551616%18446744073709551616+c0)/18446744073709551616->
  m=(x/18446744073709551616/18446744073709551616%18446744073709551616+y/18446744073709551616/18446744073709551616%18446744073709551616+c1)%18446744073709551616->
  N3 (x+y)= .agg #[.int .u64 e, .int .u64 g, .int .u64 m]:=by
  intro e g m c0 c1 s z C I J;obtain ⟨d0,d1,_,_,e0,e1,e2,e3,e4⟩:=aaY x y;rw[jY]at s z;obtain rfl:c0=d0:=by rw[z,e0]
  obtain rfl:c1=d1:=by rw[I,e2]
  rw[s,C,J,e1,e3,e4];rfl
 generalize hV:N3 (x+y)=V at*;clear hV;unfold N3;have U:x%18446744073709551616<18446744073709551616:=dQ _ pm;have bb:x/18446744073709551616%18446744073709551616<18446744073709551616:=dQ _ pm;have bc:x/18446744073709551616/18446744073709551616%18446744073709551616<18446744073709551616:=dQ _ pm;have bd:y%18446744073709551616<18446744073709551616:=dQ _ pm;have be:y/18446744073709551616%18446744073709551616<18446744073709551616:=dQ _ pm;have bf:y/18446744073709551616/18446744073709551616%18446744073709551616<18446744073709551616:=dQ _ pm;generalize x%18446744073709551616=a at*;generalize x/18446744073709551616%18446744073709551616=b at*;generalize x/18446744073709551616/18446744073709551616%18446744073709551616=c at*;generalize y%18446744073709551616=d at*;generalize y/18446744073709551616%18446744073709551616=e' at*;generalize y/18446744073709551616/18446744073709551616%18446744073709551616=f at*;obtain ⟨e,c0,s,z,k0,R⟩:=Fy a d 0 pm U bd;obtain ⟨g,c1,C,I,k1,E1⟩:=Fy b e' c0 k0 bb be;obtain ⟨m,c2,J,h6,k2,E2⟩:=Fy c f c1 k1 bc bf;have HF:=Hq (a1 e g m c0 c1 s z C I J);have a2:∀w:World,(callFunc 142 #[.int .u64 a, .int .u64 d, .int .u64 0]).run prog w= .ok (.value (.tuple #[.int .u64 e, .int .u64 c0])) w:=R;clear a1 s z C I J h6 R U bb bc bd be bf k0 k1 k2;go_enter func93,ntmps93;go_wp2_with fail
 refine xp 4 ?_;rw[jt];go_wp2_with fail;go_region;go_wp2_with fail;rw[jt];go_wp2_with fail;go_region;go_wp2_with fail;rw[jt];go_wp2_with fail;go_region;go_wp2_with fail;rw[jt];go_wp2_with fail;refine bodyPost_ret (v:= .agg #[.int .u64 e, .int .u64 g, .int .u64 m]) (by simp[results,results93,go_sem]) rfl ?_;exact ⟨by rw[HF.out],aM (aM (aM (aF (aF (aF (ak w none) _) _) _)))⟩
def FE (c:Nat)(b:c<18446744073709551616):bits .and .u64 (c:Int) 3=((c%4:Nat):Int):=by have:=rY c 3 b pm;rw[show((3:Nat):Int)=3from rfl]at this;rw[this];congr 1;exact Nat.and_two_pow_sub_one_eq_mod c 2
def pT (x:Nat):∃p q r:Nat,N3 x= .agg #[.int .u64 p, .int .u64 q, .int .u64 r]:=⟨_,_,_,rfl⟩
def z3:Lv:=[.int .u64 0, .int .u64 0, .int .u64 0]
def DC:(prog.info? 150).map (·.size)=some 3:=qr
def gS {a b:Value}(h:ab w B 150 [a,b,c]):(w.cell? ⟨B,0,none⟩=some a/\w.cell? ⟨B,1,none⟩=some b/\w.cell? ⟨B,2,none⟩=some c)/\w.frozen? ⟨B,0,none⟩=false/\w.frozen? ⟨B,1,none⟩=false/\w.frozen? ⟨B,2,none⟩=false:=
 ⟨⟨h.cell 0,h.cell 1,h.cell 2⟩,h.frozen 0,h.frozen 1,h.frozen 2⟩
def rh {a b:Value}(h:ab w B 150 [a,b,c])(p q r:Value):ab (((w.setCell ⟨B,0,none⟩ p).setCell ⟨B,1,none⟩ q).setCell ⟨B,2,none⟩ r) B 150 [p,q,r]:=((h.set 0 p).set 1 q).set 2 r
def sU {a:World}(h:a.grownBy w r)(b:a.heap.size<=B)(p q s:Value):a.grownBy (((w.setCell ⟨B,0,none⟩ p).setCell ⟨B,1,none⟩ q).setCell ⟨B,2,none⟩ s) r:=
 cj (cj (cj h _ b _) _ b _) _ b _
def Mh w (x:Nat)(hx:x<6277101735386680763835789423207666416102355444464034512896):Calls prog 148 #[N3 x] w (Grown (N3 (kI x)) w):=by
 obtain ⟨V,z⟩:=kq (N3 (kI x));rw[<-z];have U:=Hq z;clear z;unfold N3;have hc:x/18446744073709551616/18446744073709551616%18446744073709551616<18446744073709551616:=dQ _ pm;obtain ⟨a,I⟩:=kq (x%18446744073709551616);obtain ⟨b,e⟩:=kq (x/18446744073709551616%18446744073709551616);obtain ⟨c,g⟩:=kq (x/18446744073709551616/18446744073709551616%18446744073709551616);rw[<-I,<-e,<-g];rw[<-g]at hc;have a5:=FE c hc;obtain ⟨a2,la,lb,_⟩:=Rn x a b c hx I e g;obtain ⟨m,s⟩:=Nj x a b c a2 la lb;have R:=vH a b (c%4) la lb pm;rw[<-m]at R;have n2:=Kb (5*(c/4)%18446744073709551616) (dQ _ pm);have hp:kI x=x%1361129467683753853853498429727072845824+5*(c/4)%18446744073709551616:=by rw[kI,s]
 have e1:IntKind.u64.wrap (5*((c:Int)/4))=((5*(c/4)%18446744073709551616:Nat):Int):=by show(5*((c:Int)/4))%18446744073709551616=_;omega
 have A:∀W:World,Calls prog 93 #[.agg #[.int .u64 a, .int .u64 b, .int .u64 ((c:Int)%4)], .agg #[.int .u64 (IntKind.u64.wrap (5*((c:Int)/4))), .int .u64 0, .int .u64 0]] W (Grown V W):=by intro W;have h:=sH W (x%1361129467683753853853498429727072845824) (5*(c/4)%18446744073709551616);rw[<-hp,<-U.out,R,n2]at h;rw[e1];exact h
 clear I e g a2 m s R n2 hp e1;go_enter func148,ntmps148;go_wp2_with fail;refine ax (A _) λw1 J=>?_;obtain ⟨p,q,r,hN⟩:=pT (kI x);have C:=U.out.trans hN;rw[C];have a3:=Hq C;have a1:=ab.new (w.alloc (.cells #[.int .u64 a, .int .u64 b, .int .u64 ((c:Int)%4)] 150)) 150 z3;have e:=a1.kept J pu;rw[show(w.alloc (.cells #[.int .u64 a, .int .u64 b, .int .u64 ((c:Int)%4)] 150)).heap.size=w.heap.size+1from pu]at e;obtain ⟨⟨c0,c1,c2⟩,f0,m,s⟩:=gS e;have a4:=ai (aF (aF (ak w none) _) _) J;have HB:=Hq e;clear C hN e a1 J;go_wp2_with fail;have hW:=rh HB.out (.int .u64 p) (.int .u64 q) (.int .u64 r);refine bodyPost_ret (v:= .agg #[.int .u64 p, .int .u64 q, .int .u64 r]) (uJ results148 _ _ (w.heap.size+1) rfl _ _ hW underlying150 rfl DC) rfl ?_;exact ⟨by rw[a3.out],sU a4 pm _ _ _⟩
def M0 (x:Nat):kI x<1361129467683753853871945173800782397440:=by unfold kI;omega
def VW w (x:Nat)(hx:x<6277101735386680763835789423207666416102355444464034512896):Calls prog 95 #[N3 x] w (Grown (N3 (uI x)) w):=by
 obtain ⟨V,hV⟩:=kq (N3 (uI x));rw[<-hV];have a7:uI x=if 0<(kI x+5)/18446744073709551616/18446744073709551616%18446744073709551616/4then(kI x+5)%1361129467683753853853498429727072845824 else kI x:=rfl;have hy:=M0 x;have A1:∀W:World,Calls prog 148 #[N3 x] W (Grown (N3 (kI x)) W):=λW=>Mh W x hx;generalize kI x=y at*;obtain ⟨a,b,c,hN⟩:=pT x;rw[hN]at A1;rw[hN];obtain ⟨p,q,r,hY⟩:=pT y;have A2:∀W:World,Calls prog 93 #[N3 y,N3 5] W (Grown (N3 (y+5)) W):=λW=>sH W y 5;rw[hY,Kb 5 pm]at A2;rw[hY]at A1;obtain ⟨d,hd⟩:=kq ((y+5)%18446744073709551616);obtain ⟨g,he⟩:∃e,e=(y+5)/18446744073709551616%18446744073709551616:=⟨_,rfl⟩;obtain ⟨f,hf⟩:=kq ((y+5)/18446744073709551616/18446744073709551616%18446744073709551616);obtain ⟨m1,m2,m3,m4⟩:=Rn (y+5) d g f pm hd he hf;have hM:N3 (y+5)= .agg #[.int .u64 d, .int .u64 g, .int .u64 f]:=by unfold N3;rw[<-hd,<-he,<-hf]
 rw[hM]at A2;have hL:N3 ((y+5)%1361129467683753853853498429727072845824)= .agg #[.int .u64 d, .int .u64 g, .int .u64 ((f:Int)%4)]:=by rw[(Nj (y+5) d g f m1 m2 m3).1,vH d g (f%4) m2 m3 pm];rfl
 have a2:=Hq (show 4<=f->V= .agg #[.int .u64 d, .int .u64 g, .int .u64 ((f:Int)%4)]from λh=>by rw[hV,a7,<-hf,av pm,hL])
 have a3:=Hq (show¬4<=f->V= .agg #[.int .u64 p, .int .u64 q, .int .u64 r]from λh=>by rw[hV,a7,<-hf,au pm,hY])
 have b5:=FE f m4;clear hV a7 hy hN hY hM hL hd he hf m1 m2 m3 hx;go_enter func95,ntmps95;go_wp2_with fail;refine ax (A1 _) λw1 hg=>?_;have b0:=ai (aF (aF (ak w none) _) _) hg;have a6:=(ab.new (w.alloc (.cells #[.int .u64 a, .int .u64 b, .int .u64 c] 150)) 150 z3).kept hg pu;rw[show(w.alloc (.cells #[.int .u64 a, .int .u64 b, .int .u64 c] 150)).heap.size=w.heap.size+1from pu]at a6;have a5:=((ab.new w 150 [.int .u64 a, .int .u64 b, .int .u64 c]).kept (aT _ (.cells z3.toArray 150) none) pu).kept hg pu;obtain ⟨⟨c0,c1,U⟩,f0,f1,f2⟩:=gS a5;have a9:=rh a5 (.int .u64 p) (.int .u64 q) (.int .u64 r);have J:w1.grownBy (((w1.setCell ⟨w.heap.size,0,none⟩ (.int .u64 p)).setCell ⟨w.heap.size,1,none⟩ (.int .u64 q)).setCell ⟨w.heap.size,2,none⟩ (.int .u64 r)) (some w.heap.size):=aw (aw (aw (ak _ _) _ _) _ _) _ _;have a':=a6.kept J pu;have b1:=cJ b0 J (bm _);have HB:=Hq (And.intro a9 (And.intro a' b1));clear hg b0 a6 a5 a9 J a' b1;go_upto_region 2with(fail);clear c0 c1 U f0 f1 f2;have b3:=HB.out;generalize (((w1.setCell ⟨w.heap.size,0,none⟩ (.int .u64 p)).setCell ⟨w.heap.size,1,none⟩ (.int .u64 q)).setCell ⟨w.heap.size,2,none⟩ (.int .u64 r))=x2 at*;obtain ⟨s,z,kg⟩:=b3;obtain ⟨⟨c0,c1,U⟩,f0,f1,f2⟩:=gS s;have HK:=Hq (And.intro s (And.intro z kg));clear s z kg HB
 go_wp2_with fail;refine ax (A2 _) λm a1=>?_;have s:=HK.out.1.kept a1 pu;have z:=HK.out.2.1.kept a1 pu;have kg:=ai HK.out.2.2 a1;have I:=Hq (And.intro s (And.intro z kg));clear c0 c1 U f0 f1 f2 s z kg a1 HK A1 A2;go_upto_region 3with(fail);have j0:=I.out.1.kept (aT m (.cells #[.int .u64 d, .int .u64 g, .int .u64 f] 150) none) pu;have j1:=I.out.2.1.kept (aT m (.cells #[.int .u64 d, .int .u64 g, .int .u64 f] 150) none) pu;have j3:ab (m.alloc (.cells #[.int .u64 d, .int .u64 g, .int .u64 f] 150)) m.heap.size 150 [.int .u64 d, .int .u64 g, .int .u64 f]:=ab.new m _ _;have jg:=aF I.out.2.2 (.cells #[.int .u64 d, .int .u64 g, .int .u64 f] 150);have b6:m.heap.size≠w.heap.size+1:=by have:=I.out.2.1.lt;omega
 have b4:w.heap.size<=m.heap.size:=I.out.2.2.size;generalize m.alloc (.cells #[.int .u64 d, .int .u64 g, .int .u64 f] 150)=x4 at*;generalize m.heap.size=B3 at*;clear I;obtain ⟨⟨c0,c1,U⟩,f0,f1,f2⟩:=gS j0;obtain ⟨⟨s,z,k2⟩,g0,g1,g2⟩:=gS j1;obtain ⟨⟨l0,l1,l2⟩,h0,h1,h2⟩:=gS j3;have C:=Hq (And.intro j1 (And.intro j3 jg));clear j0 j1 j3 jg;by_cases h4:4<=f
 ·have qp:(0:Int)<(f:Int)/4:=pm
  have a4:=Hq (a2.out h4);clear a2 a3 h4 c0 c1 U f0 f1 f2;have hs:=(C.out.1.kept (aw (ak x4 (some B3)) 2 (.int .u64 ((f:Int)%4))) pp);obtain ⟨⟨s0,s1,s2⟩,t0,t1,t2⟩:=gS hs;have b2:=C.out.2.1.set 2 (.int .u64 ((f:Int)%4));obtain ⟨⟨u0,u1,u2⟩,_⟩:=gS (a:= .int .u64 d) (b:= .int .u64 g) (c:= .int .u64 ((f:Int)%4)) b2;have J:=cj C.out.2.2 ⟨B3,2,none⟩ b4 (.int .u64 ((f:Int)%4));have R:=Hq (And.intro hs J);clear hs b2 J;go_upto_region 5with(fail);have a8:=R.out;generalize x4.setCell ⟨B3,2,none⟩ (.int .u64 ((f:Int)%4))=x5 at*;clear R C s z k2 g0 g1 g2 l0 l1 l2 h0 h1 h2;have R:=Hq a8;clear a8;go_wp2_with fail;have hW:=rh R.out.1 (.int .u64 d) (.int .u64 g) (.int .u64 ((f:Int)%4));refine bodyPost_ret (v:= .agg #[.int .u64 d, .int .u64 g, .int .u64 ((f:Int)%4)]) (uJ results95 _ _ (w.heap.size+1) rfl _ _ hW underlying150 rfl DC) rfl ?_;exact ⟨by rw[a4.out],sU R.out.2 pm _ _ _⟩
 have qn:¬(0:Int)<(f:Int)/4:=pm
 have a4:=Hq (a3.out h4);clear a2 a3 h4;go_wp2_with fail;have hW:=rh C.out.1 (.int .u64 p) (.int .u64 q) (.int .u64 r);refine bodyPost_ret (v:= .agg #[.int .u64 p, .int .u64 q, .int .u64 r]) (uJ results95 _ _ (w.heap.size+1) rfl _ _ hW underlying150 rfl DC) rfl ?_;exact ⟨by rw[a4.out],sU C.out.2.2 pm _ _ _⟩
def Cx (a b:Lb):aV (a++b)=aV a*256^b.length+aV b:=by
 have h:∀(b:Lb) (n:Nat),b.foldl (λn c=>n*256+c.toNat) n=n*256^b.length+b.foldl (λn c=>n*256+c.toNat) 0:=by
  intro b;induction b with
  |nil=>intro n;simp
  |cons c b e=>intro n;rw[List.foldl_cons,e,List.foldl_cons,e (0*256+c.toNat),eI,je,rZ];simp only[Nat.zero_mul,ef];have:n*256*256^b.length=n*(256^b.length*256):=(by rw[BV,jH 256]);omega
 unfold aV;rw[Ff,h b]
def Sw (n k:Nat):bo n (k+1)=UInt8.ofNat (n/256^k)::bo n k:=by
 unfold bo;rw[List.range_succ_eq_map,oC,Ca];congr 1
 ·have:2^(8*(k+1-1-0))=256^k:=by rw[show k+1-1-0=k from pm,Nat.pow_mul]
  rw[this]
 apply By;intro i b;have e:=pM.1 b;simp only[Function.comp];rw[show k+1-1-(i+1)=k-1-i from pm]
def Cy (n:Nat):∀k,aV (bo n k)=n%256^k
 |0=>by simp[bo,aV,Nat.mod_one]
 |k+1=>by
  rw[Sw,show UInt8.ofNat (n/256^k)::bo n k=[UInt8.ofNat (n/256^k)]++bo n k from rfl,Cx,Cy n k,fw];have e:aV [UInt8.ofNat (n/256^k)]=n/256^k%256:=by simp[aV]
  rw[e,je,Nat.mod_mul];rw[jH];omega
def KK (c:UInt8)(l:Lb):aV (c::l)=c.toNat*256^l.length+aV l:=by rw[show c::l=[c]++l from rfl,Cx];simp[aV]
def KL:∀a b:Lb,a.length=b.length->aV a=aV b->a=b
 |[],[],_,_=>rfl
 |c::a,d::b,x,h=>by
  have m:a.length=b.length:=by simpa using x
  rw[KK,KK,m]at h;have s:=ua a;have z:=ua b;rw[m]at s;have e:c.toNat=d.toNat:=by
   rcases BL c.toNat d.toNat with g|g|g
   ·have:=wX (256^b.length) (show c.toNat+1<=d.toNat from g);rw[rZ]at this;omega
   ·exact g
   have:=wX (256^b.length) (show d.toNat+1<=c.toNat from g);rw[rZ]at this;omega
  rw[e]at h;rw[tJ.1 e,KL a b m pm]
def Sv (n:Nat)(h:n<340282366920938463463374607431768211456):bo n 16=bo (n/18446744073709551616) 8++bo (n%18446744073709551616) 8:=by refine KL _ _ (by rw[aK,fw,fw,fw]) ?_;rw[Cx,Cy,Cy,Cy,fw];simp only[Nat.reducePow];omega
def Sx (l:Lb)(h:l.length=16):aV l=18446744073709551616*aV (l.take 8)+aV (l.drop 8):=by
 have e:l=l.take 8++l.drop 8:=(pJ 8 l).symm;conv=>lhs;rw[e,Cx]
 rw[aR,h];simp only[Nat.reduceSub,Nat.reducePow];omega
def dB(n:Nat):Nat:=n/18446744073709551616
def db(n:Nat):Nat:=n%18446744073709551616
def G2(n:Nat):Value:= .agg #[cM (dB n:Nat),cM (db n:Nat)]
def yi (n:Nat):db n<18446744073709551616:=dQ _ pm
def Ae (h:n<2^128):dB n<18446744073709551616:=by unfold dB;omega
def Pm {l:Nat}(e:n=18446744073709551616*h+l)(b:l<18446744073709551616):dB n=h/\db n=l:=by unfold dB db;omega
def NQ (a b:Nat):dB (a^^^b)=dB a^^^dB b:=by unfold dB;exact Nat.xor_div_two_pow (n:=64)
def Oy (a b:Nat):db (a^^^b)=db a^^^db b:=by unfold db;exact Nat.xor_mod_two_pow (n:=64)
def SI (h:i<64):p/2^(127-i)%2=dB p/2^(63-i)%2:=by unfold dB;rw[show(18446744073709551616:Nat)=2^64from rfl,qJ,<-xu,show 64+(63-i)=127-i from pm]
def SJ (h:64<=i)(b:i<128):p/2^(127-i)%2=db p/2^(63-i%64)%2:=by unfold db;obtain ⟨j,e,g⟩:∃j,127-i=j/\j<64:=⟨_,rfl,pm⟩;rw[show 63-i%64=j from pm,e,show(18446744073709551616:Nat)=2^j*2^(64-j)from by rw[<-xu,show j+(64-j)=64from pm]];rw[Nat.mod_mul_right_div_self];have b:2∣2^(64-j):=⟨2^(64-j-1),by rw[<-Nat.pow_succ'];congr 1;omega⟩;rw[Nat.mod_mod_of_dvd _ b]
def P6 (q:Nat):dB (qx q)=dB q/2^^^db q%2*16212958658533785600/\db (qx q)=db q/2+dB q%2*9223372036854775808:=by
 have e:qx q=q/2^^^q%2*Ad:=rfl;have x:Ad=18446744073709551616*16212958658533785600:=wl
 have g:q%2=db q%2:=by unfold db;omega
 have b:dB (db q%2*Ad)=db q%2*16212958658533785600/\db (db q%2*Ad)=0:=by
  rw[x];refine Pm (l:=0) ?_ pm;rw[jY]
  ac_rfl
 have m:dB (q/2)=dB q/2:=by unfold dB;omega
 have s:db (q/2)=db q/2+dB q%2*9223372036854775808:=by unfold dB db;omega
 rw[e,NQ,Oy,g,b.1,b.2,m,s,Nat.xor_zero];exact ⟨rfl,rfl⟩
def I1 (l h:Nat)(b:l<18446744073709551616):l/2|||h*9223372036854775808%18446744073709551616=l/2+h%2*9223372036854775808:=by
 have e:h*9223372036854775808%18446744073709551616=2^63*(h%2):=pm
 rw[e,Nat.or_comm,<-yT pm];omega
def QY:(2:Nat)^128=340282366920938463463374607431768211456:=wl
def CE (l:Lb)(h:l.length=16):aV l<2^128:=by have:=ua l;rw[h]at this;rw[QY];simpa using this
def Th (l:Lb)(h:l.length=16):dB (aV l)=aV (l.take 8)/\db (aV l)=aV (l.drop 8):=
 Pm (Sx l h) (Sz _ (by rw[aR];omega))
def Tf (h:n<2^128):bo (dB n) 8++bo (db n) 8=bo n 16:=by rw[QY]at h;exact (Sv n h).symm
def g2(n:Nat):Lv:=[cM (dB n:Nat),cM (db n:Nat)]
def oP {a b:Value}(h:ab w B 341 [a,b]):(w.cell? ⟨B,0,none⟩=some a/\w.cell? ⟨B,1,none⟩=some b)/\w.frozen? ⟨B,0,none⟩=false/\w.frozen? ⟨B,1,none⟩=false:=
 ⟨⟨h.cell 0,h.cell 1⟩,h.frozen 0,h.frozen 1⟩
def KP {a b:Value}(h:ab w B 341 [a,b])(p q:Value):ab ((w.setCell ⟨B,0,none⟩ p).setCell ⟨B,1,none⟩ q) B 341 [p,q]:=(h.set 0 p).set 1 q
def Td {a b:Value}(h:ab w B 341 [a,b])(p q:Value):ab ((w.setCell ⟨B,1,none⟩ q).setCell ⟨B,0,none⟩ p) B 341 [p,q]:=(h.set 1 q).set 0 p
def Ho {a:World}(h:a.grownBy w r)(b:a.heap.size<=B)(i j:Nat)(p q:Value):a.grownBy ((w.setCell ⟨B,i,none⟩ p).setCell ⟨B,j,none⟩ q) r:=
 cj (cj h _ b _) _ b _
def LR w (a b:Nat)(e:a<2^128)(g:b<2^128):
 Calls prog 258 #[G2 a,G2 b] w (Grown (G2 (a^^^b)) w):=by
 have x1:=u64_xor_nat (dB a) (dB b) (Ae e) (Ae g);have x2:=u64_xor_nat (db a) (db b) (yi a) (yi b);rw[<-NQ]at x1;rw[<-Oy]at x2;unfold G2;generalize dB (a^^^b)=m at*;generalize db (a^^^b)=s at*;generalize dB a=x at*;generalize db a=z at*;generalize dB b=C at*;generalize db b=I at*;clear e g;go_enter func258,ntmps258;go_wp2_with fail;refine bodyPost_ret (v:= .agg #[cM m,cM s]) (by simp[results,results258,go_sem]) rfl ?_;exact ⟨rfl,aF (aF (aF (ak w none) _) _) _⟩
def LS w (l:Lb)(x:l.length=16):
 Calls prog 259 #[S l] w (Grown (G2 (aV l)) w):=by
 obtain ⟨m,s⟩:=Th l x;have b:∀W:World,Calls prog 247 #[S (l.take 8)] W λe w'=>e= .returned (cM (aV (l.take 8)))/\w'=W:=λW=>(yP W (l.take 8) (by rw[aJ];omega)).mono (λe w' h=>⟨h.1,h.2.symm⟩);have g:∀W:World,Calls prog 247 #[S (l.drop 8)] W λe w'=>e= .returned (cM (aV (l.drop 8)))/\w'=W:=λW=>(yP W (l.drop 8) (by rw[aR];omega)).mono (λe w' h=>⟨h.1,h.2.symm⟩);have z:List.take (8-0) (List.drop 0 l)=l.take 8:=pu
 have C:List.take (l.length-8) (List.drop 8 l)=l.drop 8:=cE pu;have I:(8:Int)<=(l.length:Int):=pm
 have J:=dP;unfold G2;rw[m,s];clear m s x;generalize aV (l.take 8)=u at*;generalize aV (l.drop 8)=v at*;unfold S at*;go_enter func259,ntmps259;go_wp2_with fail;go_still_tail 7,qr;still_call(b _);repeat still_step
 still_call(g _);repeat still_step
 refine vA ?_;change wpList _ _ _ _ _ (w.alloc (.cells #[cM 0,cM 0] 341)).drew;clear b g z C;go_wp2_with fail;refine bodyPost_ret (v:= .agg #[cM u,cM v]) (by simp[results,results259,go_sem]) rfl ?_;exact ⟨rfl,aM (aF (ak w none) _)⟩
def Ve w (n:Nat)(C:n<2^128):
 Calls prog 261 #[G2 n] w (Grown (S (bo n 16)) w):=by
 have HT:=Hq (Tf C);have U:=Ae C;have h2:=yi n;unfold G2;generalize dB n=u at*;generalize db n=v at*;clear C;have J:∀W:World,Calls prog 70 #[.slice none 0 0,cM u,ar 8] W (mH W W.heap.size (bo u 8)):=λW=>by have:=pC W W.heap.size (.slice none 0 0) [] u 8 (mO _ _) U pm pm pu (bm _);exact this
 have R:∀(W:World) (b:Nat) (x:Value),dq W b x (bo u 8)->b<=W.heap.size->Calls prog 70 #[x,cM v,ar 8] W (mH W b (bo n 16)):=λW b x I k2=>by have:=pC W b x (bo u 8) v 8 I h2 pm pm (by rw[fw];omega) k2;rw[show(8:Int).toNat=8from rfl,HT.out]at this;exact this
 clear U h2;unfold S;go_enter func261,ntmps261;go_wp2_with fail;obtain ⟨y,g⟩:=kq (w.alloc (.cells #[cM u,cM v] 341));obtain ⟨B,m⟩:=kq w.heap.size;have z:ab y B 341 [cM u,cM v]:=by rw[g,m];exact aO w _
 have a4:w.grownBy y none:=by rw[g];exact aF (ak w none) _
 rw[<-g,<-m];clear g m;obtain ⟨⟨k0,I⟩,_⟩:=oP z;have a5:=z.lt;clear z;go_region_with
  (first
   |(go_at_call 70;(with_reducible refine (J _).mono ?_);rintro e w7 ⟨t1,rfl,a2,s⟩;have a6:=(s.cell (p:=⟨B,1,none⟩) a5).trans I)
   |(go_at_call 70;(with_reducible refine (R _ _ _ a2 s.size).mono ?_);rintro e w8 ⟨t2,rfl,a3,a1⟩;have hc:=jL a3;unfold S at hc))
 all_goals
  clear J R;go_wp2;go_ret;exact ⟨rfl,ai (aM a4) (iU (s.trans a1))⟩
def Vf w (p q:Nat)(hp:p<2^128)(hq:q<2^128):
 Calls prog 260 #[G2 p,G2 q] w (Grown (G2 (hmul p q)) w):=by
 have HP:=Hq hp;have c3:=Ae hp;have c4:=yi p;obtain ⟨B,z⟩:=kq w.heap.size;obtain ⟨x,m⟩:=kq ((((w.alloc (.cells (g2 p).toArray 341)).alloc (.cells (g2 q).toArray 341)).alloc (.cells (g2 0).toArray 341)).alloc (.cells (g2 0).toArray 341));have s1:(w.alloc (.cells (g2 p).toArray 341)).heap.size=B+1:=by rw[z];simp
 have s2:((w.alloc (.cells (g2 p).toArray 341)).alloc (.cells (g2 q).toArray 341)).heap.size=B+1+1:=by rw[z];simp
 have s3:(((w.alloc (.cells (g2 p).toArray 341)).alloc (.cells (g2 q).toArray 341)).alloc (.cells (g2 0).toArray 341)).heap.size=B+1+1+1:=by rw[z];simp
 have bP:ab x B 341 (g2 p):=by rw[m,z];exact cG (cG (cG (aO w _)))
 have bQ:ab x (B+1) 341 (g2 q):=by rw[m,<-s1];exact cG (cG (aO _ _))
 have J:ab x (B+1+1) 341 (g2 0):=by rw[m,<-s2];exact cG (aO _ _)
 have bO:ab x (B+1+1+1) 341 (g2 0):=by rw[m,<-s3];exact aO _ _
 have b5:w.grownBy x none:=by rw[m];exact aF (aF (aF (aF (ak w none) _) _) _) _
 have HX:=Hq m;have HB:=Hq z;have b1:=Hq bP;have b2:=Hq bQ;have b3:=Hq J;have b0:=Hq bO;have HG:=Hq b5;have c5:w.heap.size<=B:=pm
 clear m z s1 s2 s3 bP bQ J bO b5;unfold G2;go_enter func260,ntmps260;go_wp2_with fail;rw[<-HB.out];have hX:=HX.out;unfold g2 at hX;simp only[show dB 0=0from rfl,show db 0=0from rfl,show((0:Nat):Int)=0from rfl]at hX;rw[<-hX];clear hX;go_loopw [6,7,8,9] (λv6 v7 v8 vi wr=>∃i n r:Nat,i<=128/\vi=ar i/\n<2^128/\r<2^128/\Hid (hm (128-i) n p r=hmul p q)/\Hid (ab wr B 341 (g2 p))/\Hid (ab wr (B+1) 341 (g2 r))/\Hid (ab wr (B+1+1) 341 (g2 0))/\Hid (ab wr (B+1+1+1) 341 (g2 n))/\Hid (w.grownBy wr none)) (λ_ _ _ vi _=>128-(intOf vi).toNat)
 case atStart=>exact ⟨0,0,q,pm,rfl,ut,hq,Hq rfl,b1,b2,b3,b0,HG⟩
 case round=>
  clear b1 b2 b3 b0 HG HX hp hq;obtain ⟨i,n,r,hi,rfl,hn,hr,hE,a4,a5,a6,U,hg⟩:=hrel;by_cases b9:i<128
  ·have hd:decide ((i:Int)<128)=true:=pp;obtain ⟨⟨p0,p1⟩,_⟩:=oP a4.out;obtain ⟨t,C,c1⟩:∃t:Nat,t=p/2^(127-i)%2/\t<2:=⟨_,rfl,pm⟩;have c0:Hid (hm (127-i) (n^^^t*r) p (qx r)=hmul p q):=Hq (by rw[<-hE.out,show 128-i=(127-i)+1from pm,hm,C])
   have HN:=Hq hn;have a3:=Hq hr;clear hn hr;obtain ⟨b,c7,a9⟩:∃b:Nat,63-(i:Int)%64=(b:Int)/\b=63-i%64:=⟨63-i%64,pm,rfl⟩;go_upto_if 15with(fail);go_cut [7] (λv7 s=>∃g:Nat,v7=cM g/\g<18446744073709551616/\Hid (g/2^b%2=t)/\s=wr)
   case first=>
    by_cases b4:i<64
    ·have q:¬(64:Int)<=(i:Int):=pm;have hw:Hid (dB p/2^b%2=t):=Hq (by rw[C,SI b4,a9,BN b4]);clear C;go_wp2;go_meet;exact ⟨_,rfl,c3,hw,rfl⟩
    have q:(64:Int)<=(i:Int):=pm;have hw:Hid (db p/2^b%2=t):=Hq (by rw[C,SJ pm b9,a9]);clear C;go_wp2;go_meet;exact ⟨_,rfl,c4,hw,rfl⟩
   case rest=>
    obtain ⟨g,rfl,c8,c2,rfl⟩:=hcut;have q1:(0:Int)<=(b:Int):=pm;have q2:(b:Int)<=63:=pm;clear p0 p1 C a9;have hA:bits .and .u64 ((g:Int)/2^b) 1=(t:Int):=by have e:((g:Int)/2^b)=((g/2^b:Nat):Int):=pu;have c6:g/2^b<=g:=qQ _ _;have:=rY (g/2^b) 1 pm pm;rw[e];rw[show((1:Nat):Int)=1from rfl]at this;rw[this,EZ,c2.out]
    have a':=Hq (show n^^^t*r<2^128from DB HN.out (Hu c1 a3.out));go_upto_if 24with(fail);go_cut [7] (λv7 s=>Hid (ab s B 341 (g2 p))/\Hid (ab s (B+1) 341 (g2 r))/\Hid (ab s (B+1+1) 341 (g2 0))/\Hid (ab s (B+1+1+1) 341 (g2 (n^^^t*r)))/\Hid (w.grownBy s none))
    case first=>
     clear a';rcases (show t=0\/t=1 by omega)with h0|R
     ·subst h0;have I:Hid (n^^^0*r=n):=Hq (by rw[Nat.zero_mul,Nat.xor_zero]);go_wp2;go_meet;exact ⟨a4,a5,a6,Hq (by rw[I.out];exact U.out),hg⟩
     subst R;have I:Hid (n^^^1*r=n^^^r):=Hq (by rw[Nat.one_mul]);obtain ⟨⟨o0,o1⟩,_⟩:=oP U.out;obtain ⟨⟨r0,r1⟩,_⟩:=oP a5.out;have A1:∀W:World,Calls prog 258 #[.agg #[cM (dB n:Nat),cM (db n:Nat)], .agg #[cM (dB r:Nat),cM (db r:Nat)]] W (Grown (.agg #[cM (dB (n^^^r):Nat),cM (db (n^^^r):Nat)]) W):=λW=>LR W n r HN.out a3.out;go_wp2_with fail;refine ax (A1 _) λw2 a8=>?_;have a7:=ab.kept U.out a8 nofun
     obtain ⟨⟨o0,o1⟩,f0,f1⟩:=oP a7;have b6:=Hq a7;have a2:=Hq a8;have b':w.heap.size<=B+1+1+1:=pm;clear a7 a8 A1 r0 r1;go_wp2;go_meet;exact ⟨Hq (ab.kept (ab.kept a4.out a2.out nofun) (aw (aw (ak w2 (some (B+1+1+1))) 0 _) 1 _) pp),
      Hq (ab.kept (ab.kept a5.out a2.out nofun) (aw (aw (ak w2 (some (B+1+1+1))) 0 _) 1 _) pu),
      Hq (ab.kept (ab.kept a6.out a2.out nofun) (aw (aw (ak w2 (some (B+1+1+1))) 0 _) 1 _) pu),
      Hq (by rw[I.out];exact KP b6.out _ _),Hq (Ho (ai hg.out a2.out) b' _ _ _ _)⟩
    case rest=>
     obtain ⟨cP,cQ,cR,cO,cg⟩:=hcut;clear a4 a5 a6 U hg hA;obtain ⟨⟨r0,r1⟩,f0,f1⟩:=oP cQ.out;have a1:bits .and .u64 ((db r:Nat):Int) 1=((db r%2:Nat):Int):=by have:=rY (db r) 1 (yi r) pm;rw[show((1:Nat):Int)=1from rfl]at this;rw[this,EZ]
     go_wp2;go_roundw
     case rel=>
      obtain ⟨g1,b7⟩:=P6 r;have lr:=yi r;have hr:=Ae a3.out;have eX:bits .or .u64 ((db r:Nat)/2:Int) (IntKind.u64.wrap (((dB r:Nat):Int)*9223372036854775808))=((db (qx r):Nat):Int):=by
       have R:IntKind.u64.wrap (((dB r:Nat):Int)*9223372036854775808)=((dB r*9223372036854775808%18446744073709551616:Nat):Int):=by rw[oz];omega
       have h2:(((db r:Nat):Int)/2)=((db r/2:Nat):Int):=pm;rw[R,h2,tR _ _ pm pm,I1 _ _ lr,b7]
      have eY:bits .xor .u64 ((dB r:Nat)/2:Int) (((db r:Nat):Int)%2*225*72057594037927936)=((dB (qx r):Nat):Int):=by have R:(((db r:Nat):Int)%2*225*72057594037927936)=((db r%2*16212958658533785600:Nat):Int):=pm;have h2:(((dB r:Nat):Int)/2)=((dB r/2:Nat):Int):=pm;rw[R,h2,u64_xor_nat _ _ pm pm,g1]
      have kQ:=Td cQ.out (cM (dB (qx r):Nat)) (cM (db (qx r):Nat));have kg:=λ(u v:Value)=>aw (aw (ak wc (some (B+1))) 1 u) 0 v;rw[eX,eY];exact ⟨i+1,_,_,pm,by go_num,a'.out,Qa a3.out,(by rw[show 128-(i+1)=127-i from pm];exact c0),Hq (ab.kept cP.out (kg _ _) pu),Hq kQ,Hq (ab.kept cR.out (kg _ _) pu),Hq (ab.kept cO.out (kg _ _) pp),Hq (Ho cg.out pm _ _ _ _)⟩
     case measure=>simp[intOf];omega
  obtain rfl:i=128:=pm
  have I:n=hmul p q:=by rw[<-hE.out];rfl
  obtain ⟨⟨o0,o1⟩,_⟩:=oP U.out;have J:=a6.out;obtain ⟨⟨r0,r1⟩,f0,f1⟩:=oP J;have HZ:=Hq I;have hs:w.heap.size<=B+1+1:=pm
  have b8:=Hq (Ho (B:=B+1+1) hg.out hs 0 1 (cM (dB n:Nat)) (cM (db n:Nat)));clear I J;go_wp2_with fail;refine bodyPost_ret (v:= .agg #[cM (dB n:Nat),cM (db n:Nat)]) (by simp[results,results260,go_sem,r0,r1]) rfl ?_;exact ⟨by rw[HZ.out],b8.out⟩
end
section
open Go.RowKit
def Y2 (w:World)(m sT ty s:TypeId)(b o g C:Nat)(l:Lb)
 (R:P.underlying m=some (.slice s)) (hz:∀w,(Go.sizeOf s).run P w= .ok 1 w)
 (I:∀j,j<(l.take g).length->(w.cell? ⟨b,o+j,none⟩).isSome=true) (J:∀j,j<(l.take g).length->w.frozen? ⟨b,o+j,none⟩=false):
 (Builtin.copy_ #[m,sT] ty #[.slice (some ⟨b,o,none⟩) g C, .string ⟨l.toArray⟩]).run P w= .ok (goInt (Nat.min l.length g:Nat)) (w.setCells b o ((l.take g).map aS)):=by
 have z:=Br (P:=P) b o ((l.take g).map aS) 0 w (by rw[cY];simpa using I) (by rw[cY];simpa using J) (by intro v U;obtain ⟨x,_,rfl⟩:=eS.1 U;rfl)
 simp only[jY]at z;have e:(l.map λx=>aB (x.toNat:Int)).take (Nat.min l.length g)=(l.take g).map aS:=by rw[<-xq];show(l.take (min l.length g)).map aS=_;rw[Nat.min_comm,<-ku,pK]
 simp[Builtin.copy_,rV R,Builtin.lenOf,Builtin.firstCells,hz];rw[show(ByteArray.mk l.toArray).size=l.length from by simp[ByteArray.size],e,z];simp only[rU,<-xq]
def uq(h:Nat):Nat->Nat->Lb->Nat
 |0,y,_=>y
 |f+1,y,t=>if t=[]then y else uq h f (hmul (y^^^aV (gY t 16)) h) (t.drop 16)
def qj(h y:Nat)(t:Lb):Nat:=uq h t.length y t
def Nu {h:Nat}(e:h<2^128):∀(f y:Nat) (t:Lb),y<2^128->uq h f y t<2^128
 |0,y,t,b=>b
 |f+1,y,t,b=>by
  rw[uq];split
  ·exact b
  exact Nu e f _ _ (NT _ e)
def Hk (b:h<2^128)(e:y<2^128)(t:Lb):qj h y t<2^128:=Nu b _ _ _ e
def rR:Lv:=List.replicate 16 (aB 0)
def acd:(prog.info? 5).map (·.size)=some 1:=qr
def acf (w:World):(Go.sizeOf 5).run prog w= .ok 1 w:=by
 have h:=acd;cases hq:prog.info? 5with
 |none=>rw[hq]at h;simp at h
 |some i=>
  rw[hq]at h;have b:i.size=1:=by simpa using h
  simp[sizeOf,typeInfo,hq,b]
def copied (h:ab w B t rR)(l:Lb):ab (w.setCells B 0 ((l.take 16).map aS)) B t ((gY l 16).map aS):=by
 have g:(l.take 16).length<=16:=List.length_take_le _ _;rcases yF B ((l.take 16).map aS) 0 w rR t h with b|b
 ·have e:((rR.take 0++(l.take 16).map aS++rR.drop (0+((l.take 16).map aS).length)).take rR.length)=(gY l 16).map aS:=by unfold gY cI rR;rw[rW,kP,ef,cY,wW,List.drop_replicate,cE (by rw[aK,cY,wW];omega),jW];congr 1;rw[List.map_replicate,aJ];congr 1;omega
  rw[<-e];exact b
 rw[cY]at b;simp[rR]at b;omega
def WG (U:Lb):(ByteArray.mk U.toArray).extract (min 16 (U.length:Int)).toNat U.length=⟨(U.drop 16).toArray⟩:=by
 rw[dP];congr 2;by_cases h:16<=U.length
 ·rw[show(min 16 (U.length:Int)).toNat=16from pm];exact cE pu
 rw[show(min 16 (U.length:Int)).toNat=U.length from pm,iP pm,iP pm,List.take_nil]
attribute [local go_sem↓] Go.wp_at_zero Go.wp_at_succ
def Gj w (Y g y:Nat)(h s:Lb)(hY:ab w Y 341 (g2 y))(hH:w.cell? ⟨g,0,none⟩=some (S h))(b1:g≠Y)(hy:y<2^128)(hh:h.length=16)(hl:s.length<=140737488355328):
 Calls prog 257 #[S s,dy Y 0,dy g 0] w λe w'=>e= .returned (.tuple #[])/\ab w' Y 341 (g2 (qj (aV h) y s))/\w.grownBy w' (some Y):=by
 have c1:g<w.heap.size:=rS _ _ hH;have c5:=hY.lt;have A3:∀W:World,Calls prog 259 #[S h] W (Grown (G2 (aV h)) W):=λW=>LS W h hh;have HH:=Hq hh;have b2:=Hq hH;have HY:=Hq hY;have b5:some (⟨g,0,none⟩:Addr).block≠some Y:=by simpa using b1
 clear hh hH hY b1;unfold S;go_enter func257,ntmps257;go_wp2_with fail;go_loopw [0,4] (λvt v4 wr=>∃(U:Lb) (f z:Nat),vt= .string ⟨U.toArray⟩/\U.length<=f/\U.length<=140737488355328/\z<2^128/\Hid (uq (aV h) f z U=qj (aV h) y s)/\Hid (ab wr Y 341 (g2 z))/\Hid (w.grownBy wr (some Y))) (λvt _ _=>match vt with| .string b=>b.size|_=>0)
 case atStart=>exact ⟨s,s.length,y,rfl,bm _,hl,hy,Hq rfl,HY,Hq (ak _ _)⟩
 case round=>
  clear HY hy hl;obtain ⟨U,f,z,rfl,c3,c4,hz,hE,hb,hg⟩:=hrel;by_cases I:U=[]
  ·subst I;have a9:z=qj (aV h) y s:=by rw[<-hE.out];cases f<;>simp[uq]
   have HF:=Hq a9;clear a9;go_wp2;go_end0;exact ⟨rfl,by rw[<-HF.out];exact hb.out,hg.out⟩
  have q1:(!U.isEmpty)=true:=by simpa using I
  have q2:U.isEmpty=false:=by simpa using I
  obtain ⟨f,rfl⟩:∃f',f=f'+1:=⟨f-1,by have:=tE.2 I;omega⟩;have c2:=tE.2 I;have b6:Hid (uq (aV h) f (hmul (z^^^aV (gY U 16)) (aV h)) (U.drop 16)=qj (aV h) y s):=Hq (by rw[<-hE.out,uq,au I])
  have a7:=hg.out.cell (a:=⟨g,0,none⟩) b2.out b5;clear I;have a3:ab (wr.alloc (.cells qa 224)) wr.heap.size 224 rR:=ab.new wr _ rR;have b4:=Y2 (P:=prog) (wr.alloc (.cells qa 224)) 83 9 3 5 wr.heap.size 0 16 16 U underlying83 acf
   (λj hj=>by rw[ef,a3.cell j];simp[rR];rw[aJ]at hj;omega) (λj hj=>by rw[ef];exact a3.frozen j)
  obtain ⟨C,hC⟩:=kq wr.heap.size;have a2:ab ((wr.alloc (.cells qa 224)).setCells wr.heap.size 0 ((U.take 16).map aS)) wr.heap.size 224 ((gY U 16).map aS):=copied a3 U;have a1:wr.grownBy ((wr.alloc (.cells qa 224)).setCells wr.heap.size 0 ((U.take 16).map aS)) none:=uu (aF (ak wr none) _) _ (bm _) _ _;go_upto_region 4with(fail);clear b4 a3;rw[<-hC,xq]at a2 a1;rw[<-hC]
  generalize (wr.alloc (.cells qa 224)).setCells C 0 ((U.map aS).take 16)=x at*;have G0:w.grownBy x.drew (some Y):=aM (ai hg.out (eo a1));have a4:ab x Y 341 (g2 z):=ab.kept hb.out a1 nofun
  have S0:ab x.drew Y 341 (g2 z):=a4;obtain ⟨⟨o0,o1⟩,b9,b'⟩:=oP a4;have oh:=a1.cell (a:=⟨g,0,none⟩) a7 nofun
  have lz:=Js U 16;have a8:∀W:World,W.heap=x.heap->(convert 83 9 (.slice (some ⟨C,0,none⟩) 16 16)).run prog W= .ok (S (gY U 16)) W:=λW R=>by
   have b3:gM W C (gY U 16):=λi hi=>⟨by
    unfold World.cell?;rw[R];have:=a2.cell i;unfold World.cell? at this;rw[this];simp[aS,hi],by
    unfold World.frozen?;rw[R];exact a2.frozen i⟩
   have:=nJ b3 16;rw[lz]at this;exact this
  have c6:=a8 x.drew rfl;have A1:∀W:World,Calls prog 259 #[S (gY U 16)] W (Grown (G2 (aV (gY U 16))) W):=λW=>LS W _ lz;have lb:=CE (gY U 16) lz;have A2:∀W:World,Calls prog 258 #[G2 z,G2 (aV (gY U 16))] W (Grown (G2 (z^^^aV (gY U 16))) W):=λW=>LR W _ _ hz lb;have A4:∀W:World,Calls prog 260 #[G2 (z^^^aV (gY U 16)),G2 (aV h)] W (Grown (G2 (hmul (z^^^aV (gY U 16)) (aV h))) W):=λW=>Vf W _ _ (DB hz lb) (CE h HH.out);have lm:=NT (z^^^aV (gY U 16)) (CE h HH.out);have LZ:=Hq lm;have c0:=Hq hE.out;generalize gY U 16=J at*;clear a8 a2 a1 hb hg hE a7 lb lz a4 hC;have HS:=λ(W:World) (R:ab W Y 341 (g2 z))=>Hq (KP R (cM (dB (hmul (z^^^aV J) (aV h)):Nat)) (cM (db (hmul (z^^^aV J) (aV h)):Nat)));have HG:=λ(W:World) (R:w.grownBy W (some Y))=>Hq (aw (aw R 0 (cM (dB (hmul (z^^^aV J) (aV h)):Nat))) 1 (cM (db (hmul (z^^^aV J) (aV h)):Nat)));have c7:List.take (U.length-16) (List.drop 16 U)=U.drop 16:=cE pu;unfold G2 S at*;generalize hmul (z^^^aV J) (aV h)=m at*;generalize z^^^aV J=zx at*;generalize aV J=bs at*;go_region_with
   (first
    |(go_at_call 259;(with_reducible refine (A1 _).mono ?_);rintro e w3 ⟨rfl,a5⟩;have G3:=ai G0 (eo a5);have S3:=ab.kept S0 a5 nofun;obtain ⟨⟨c8,c9⟩,b7,b8⟩:=oP S3;have nh:=a5.cell (a:=⟨g,0,none⟩) oh nofun)
    |(go_at_call 258;(with_reducible refine (A2 _).mono ?_);rintro e w4 ⟨rfl,a6⟩;have G4:=ai G3 (eo a6);have S4:=ab.kept S3 a6 nofun;have d1:=a6.cell (a:=⟨g,0,none⟩) nh nofun)
    |(go_at_call 259;(with_reducible refine (A3 _).mono ?_);rintro e w5 ⟨rfl,a'⟩;have G5:=ai G4 (eo a');have S5:=ab.kept S4 a' nofun)
    |(go_at_call 260;(with_reducible refine (A4 _).mono ?_);rintro e w6 ⟨rfl,b0⟩;have G6:=ai G5 (eo b0);have S6:=ab.kept S5 b0 nofun;obtain ⟨⟨c',d0⟩,b7,b8⟩:=oP S6))
  all_goals
   have kS:=HS w6 S6;have kG:=HG w6 G6;clear A1 A2 A3 A4 HS HG S6 G6 S5 G5 S4 G4 S3 G3 S0 G0 o0 o1 b9 b' oh;go_wp2;go_roundw
   case rel=>exact ⟨U.drop 16,f,m,by rw[WG],by rw[aR];omega,by rw[aR];omega,LZ.out,b6,kS,kG⟩
   case measure=>simp[ByteArray.size];omega
end
section
open Go.RowKit
def Kf(w:World)(base:Nat)(l:Lb)(e:Ending)(w':World):Prop:=∃b,e= .returned b/\dJ w' base b l/\Below base w w'
def Tn w (base:Nat) v l (n k:Nat)(J:dJ w base v l)(hn:n<18446744073709551616)(hk:k<=8)(hl:l.length+8<=140737488355328)(z:base<=w.heap.size):
 Calls prog 70 #[v, .int .u64 n, .int .i64 k] w (Kf w base (l++bo n k)):=by
 go_enter func70,ntmps70;go_wp2;go_loopw [0,9] (λvb s wr=>∃j:Nat,j<=k/\s= .int .i64 j/\Hid (dJ wr base vb (l++(bo n k).take j))/\Below base w wr) (λ_ s _=>k-(intOf s).toNat)
 case atStart=>exact ⟨0,pm,rfl,Hq (by rw[rW,ev];exact J),qS _ _⟩
 case round=>
  obtain ⟨j,hj,rfl,e,HB⟩:=hrel;clear J;have a1:=fw n k;have a4:=HB.size;by_cases a2:j<k
  ·have U:=FK n k j a2;have lt:((bo n k).take j).length=j:=(by rw[aJ,a1];omega);obtain ⟨g,a3,hv,k1,k2,k3,k4,h5,h6⟩:=id e.out;subst hv;obtain ⟨v',w',R,m,I⟩:=CF (UInt8.ofNat (n/2^(8*(k-1-j)))) e.out (by rw[aK,lt];omega) pm;rw[dM,<-U]at m;have x:=Hq (And.intro m (HB.trans (ql I base pm (by intro b z;cases z;exact k1))));clear U m I h5 h6 e HB k1 k2 k3 k4;generalize (l++(bo n k).take j).length=ln at*;have e1:0<=8*((k:Int)-1-j):=pm;have e2:8*((k:Int)-1-j)<=64:=pm;have hc:Value.int .u8 ((n/2^(8*(k-1-j))%256:Nat))= .int .u8 ((UInt8.ofNat (n/2^(8*(k-1-j)))).toNat):=Cq _;go_wp2_with (at_builtin;go_must (refine zw rfl _ _ _ _ v' w' ?c1 rfl rfl rfl rfl ?_))
   case c1=>rw[<-R];congr 2
   clear R;go_wp2;go_roundw
   case rel=>exact ⟨j+1,pm,by go_num,Hq x.out.1,x.out.2⟩
   case measure=>simp[intOf];omega
  obtain rfl:j=k:=pm
  have C:dJ wr base u0 (l++bo n j):=by have:=e.out;rwa[cE pm]at this
  have HF:=Hq C;clear C e;go_wp2;go_ret;exact ⟨_,rfl,HF.out,HB⟩
def KO:(prog.info? 169).map (·.size)=some 2:=qr
def SY:liesAt prog prog.depth 169 (2/prog.cellsOf 169) 0 169 1=true:=qr
def pQ(B b:Nat)(l:Lb)(w:World):Prop:=Lib.IsBuilder 169 5 B b (Lib.byteCells l) w
def Tb (b:Nat)(w:World)(h0:w.cell? ⟨b,0,none⟩=some (dy b 0)):
 Calls prog 166 #[dy b 0] w λe w'=>e= .returned (.tuple #[])/\w'=w:=by
 obtain ⟨j,g,_⟩:=Option.map_eq_some_iff.1 KO;go_enter func166,ntmps166;go_wp2_with fail;rw[Lib.run_neq_ptr_same w _ underlying167 g];go_wp2;go_end0;exact ⟨rfl,rfl⟩
def SX (b:Nat)(w:World)(h0:w.cell? ⟨b,0,none⟩=some (.pointer none))(m:w.shape? b=some (169,2))(x:w.frozen? ⟨b,0,none⟩=false):
 Calls prog 166 #[dy b 0] w λe w'=>e= .returned (.tuple #[])/\w'=w.setCell ⟨b,0,none⟩ (dy b 0):=by
 obtain ⟨j,g,s⟩:=Option.map_eq_some_iff.1 KO;go_enter func166,ntmps166;go_wp2_with fail;rw[Lib.run_to_unsafe w ⟨b,0,none⟩ underlying167 underlying294 g (by rw[s];decide) m (Nat.zero_lt_succ 1)];simp only[Result.andThen];rw[Oper.upon_value];go_wp2_with fail;rw[EV func214 qr qr qr (e:=Extern.AbiNoEscape.same) qr];rw[Lib.run_noEscape];simp only[Result.andThen];rw[Oper.upon_value];go_wp2_with fail;rw[Lib.run_from_unsafe w ⟨b,0,none⟩ underlying294 underlying167 g m SY];simp only[Result.andThen];rw[Oper.upon_value];go_wp2;go_end0;exact ⟨rfl,rfl⟩
def SW (B b:Nat) bs w (h:Lib.IsBuilder 169 5 B b bs w):
 Calls prog 166 #[dy b 0] w λe w'=>e= .returned (.tuple #[])/\(Lib.BuilderAt 169 5 B b (dy b 0) bs w'/\Below B w w'):=by
 rcases h with h|h
 ·refine (SX b w h.cell0 h.shape h.frozen0).mono ?_;rintro e w' ⟨rfl,rfl⟩;exact ⟨rfl,h.used _,(qS B w).setCell (p:=⟨b,0,none⟩) h.1 _⟩
 refine (Tb b w h.cell0).mono ?_;rintro e w' ⟨rfl,rfl⟩;exact ⟨rfl,h,qS B _⟩
def Tc (B b:Nat) bs (s:ByteArray) w (h:Lib.IsBuilder 169 5 B b bs w)(b0:bs.length+s.size<=140737488355328)(a':B<=w.heap.size):
 Calls prog 112 #[dy b 0, .string s] w λe w'=>e= .returned (.tuple #[ar s.size, .nilIface])/\(Lib.BuilderAt 169 5 B b (dy b 0) (bs++Lib.strCells s) w'/\Below B w w'):=by
 obtain ⟨i0,hi,a6,a7,a8⟩:=mF Ag;go_enter func112,ntmps112;go_wp2_with fail;refine (SW B b bs _ h).mono ?_;rintro e z ⟨rfl,h1,R⟩;obtain ⟨hB,v,x,a2,a5⟩:=h1;have c0:z.cell? ⟨b,0,none⟩=some (dy b 0):=by rw[Lib.cell_of_heap x];rfl
 have c1:z.cell? ⟨b,1,none⟩=some v:=by rw[Lib.cell_of_heap x];rfl
 go_wp2_with (at_builtin;refine Lib.wpList_append_own_string _ rfl _ _ 83 9 rfl B 5 i0 underlying83 underlying9 hi a6 a7 a8 _ _ _ rfl a2 s rfl ?c3 ?c4 ?c5 ?_)
 case c3=>unfold maxLen;omega
 case c4=>omega
 case c5=>have:=R.size;omega
 intro v' C a3 a1 _;have a4:b<z.heap.size:=by
  rcases eR b z.heap.size with J|J
  ·exact J
  simp[tC J]at x
 have m:C.heap[b]?=some (.cells #[dy b 0,v] 169 (0,0)):=by rw[a1.block b a4 (λe=>a5 e.symm)];exact x
 have d0:C.cell? ⟨b,0,none⟩=some (dy b 0):=by rw[Lib.cell_of_heap m];rfl
 have d1:C.cell? ⟨b,1,none⟩=some v:=by rw[Lib.cell_of_heap m];rfl
 have f1:C.frozen? ⟨b,1,none⟩=false:=Lib.frozen_of_heap m 1;obtain ⟨ao,n',I,rfl⟩:∃ao n' I,v'= .slice ao n' I:=by
  rcases a3.2with⟨U,_⟩|⟨g,I,a9,U,_⟩
  ·exact ⟨_,_,_,U⟩
  exact ⟨_,_,_,U⟩
 go_wp2;go_ret2;refine ⟨rfl,?_,?_⟩
 ·exact Lib.BuilderAt.put (T:=169) (e:=5) hB m (bs':=bs++Lib.strCells s) (by simpa[Lib.strCells_length]using a3) ut
 exact (R.grown a1 (by have:=R.size;omega) (λk hk=>(a2.lt k hk).1)).setCell (p:=⟨b,1,none⟩) hB _
def Ta (B b:Nat)(l s:Lb) w (h:pQ B b l w)(C:l.length+s.length<=140737488355328)(z:B<=w.heap.size):
 Calls prog 112 #[dy b 0,S s] w λe w'=>e= .returned (.tuple #[ar s.length, .nilIface])/\pQ B b (l++s) w'/\Below B w w':=by
 have g:(ByteArray.mk s.toArray).size=s.length:=by simp[ByteArray.size]
 refine (Tc B b (Lib.byteCells l) ⟨s.toArray⟩ w h (by rw[Lib.byteCells_length,g];exact C) z).mono ?_;rintro e w' ⟨rfl,m,x⟩;refine ⟨by rw[g],Or.inr ?_,x⟩;rw[Lib.byteCells_append];exact m
def SZ (w:World)(B:Nat)(b:B<=w.heap.size):pQ B w.heap.size [] (w.alloc (.cells #[.pointer none, .slice none 0 0] 169)):=
 Or.inl ⟨b, .slice none 0 0,aO w _,Fb _ _ _ _,nofun⟩
def D1 (k:Nat)(W:World):(nilAhead (k+1) 356 (.agg #[]) "souterrain/noise.seal").run prog W= .ok (some false) W:=qr
def D5 (k:Nat)(W:World):(nilAhead (k+1) 357 (.agg #[]) "souterrain/noise.seal").run prog W= .ok (some false) W:=qr
def D0 (k:Nat)(W:World):(nilAhead (k+1) 356 (.agg #[]) "souterrain/noise.open").run prog W= .ok (some false) W:=qr
def D4 (k:Nat)(W:World):(nilAhead (k+1) 357 (.agg #[]) "souterrain/noise.open").run prog W= .ok (some false) W:=qr
def VM w key more text a (m:Nat)(n:Int)(hm:m<18446744073709551616)(C:∀W:World,Calls prog 101 #[S key,S (cF 1 m),S more,S text] W (Grown (.tuple #[S a, .int .i64 n]) W)):
 Calls prog 169 #[.int .i64 1,S key, .int .u64 m,S more,S text] w (Grown (.tuple #[S a, .int .i64 n]) w):=by
 have b:=Gt w;have s:=λW:World=>zM W m hm;have z:=λW:World=>Md W key (cF 1 m) more text a n C;have NA:=D1;have g:hJ 1= .iface 356 (.agg #[]):=rfl;rw[g]at b;generalize cF 1 m=O at*;clear C g;unfold S at*;go_enter func169,ntmps169;go_wp2_with fail;refine b.mono ?_;rintro e x ⟨rfl,rfl⟩;go_wp2_with fail;go_region_held3 (λ_=>True) (first|trivial) (first
  |(go_at_call 312;(with_reducible refine (s _).mono ?_);rintro e x1 ⟨rfl,I⟩)
  |(go_at_call 314;(with_reducible refine (z _).mono ?_);rintro e x2 ⟨rfl,J⟩))
 all_goals
  go_wp2;go_ret2;exact ⟨rfl,ai (ai (aM (ak _ _)) I) J⟩
def VN w key more text a (m:Nat)(n:Int)(hm:m<18446744073709551616)(C:∀W:World,Calls prog 102 #[S key,S (cF 2 m),S more,S text] W (Grown (.tuple #[S a, .int .i64 n]) W)):
 Calls prog 169 #[.int .i64 2,S key, .int .u64 m,S more,S text] w (Grown (.tuple #[S a, .int .i64 n]) w):=by
 have b:=Gu w;have s:=λW:World=>zQ W m hm;have z:=λW:World=>Me W key (cF 2 m) more text a n C;have NA:=D5;have g:hJ 2= .iface 357 (.agg #[]):=rfl;rw[g]at b;generalize cF 2 m=O at*;clear C g;unfold S at*;go_enter func169,ntmps169;go_wp2_with fail;refine b.mono ?_;rintro e x ⟨rfl,rfl⟩;go_wp2_with fail;go_region_held3 (λ_=>True) (first|trivial) (first
  |(go_at_call 316;(with_reducible refine (s _).mono ?_);rintro e x1 ⟨rfl,I⟩)
  |(go_at_call 318;(with_reducible refine (z _).mono ?_);rintro e x2 ⟨rfl,J⟩))
 all_goals
  go_wp2;go_ret2;exact ⟨rfl,ai (ai (aM (ak _ _)) I) J⟩
def Gq w key more text a (m:Nat)(n:Int)(hm:m<18446744073709551616)(C:∀W:World,Calls prog 103 #[S key,S (cF 1 m),S more,S text] W (Grown (.tuple #[S a, .int .i64 n]) W)):
 Calls prog 276 #[.int .i64 1,S key, .int .u64 m,S more,S text] w (Grown (.tuple #[S a, .int .i64 n]) w):=by
 have b:=Gt w;have s:=λW:World=>zM W m hm;have z:=λW:World=>Gn W key (cF 1 m) more text a n C;have NA:=D0;have g:hJ 1= .iface 356 (.agg #[]):=rfl;rw[g]at b;generalize cF 1 m=O at*;clear C g;unfold S at*;go_enter func276,ntmps276;go_wp2_with fail;refine b.mono ?_;rintro e x ⟨rfl,rfl⟩;go_wp2_with fail;go_region_held3 (λ_=>True) (first|trivial) (first
  |(go_at_call 312;(with_reducible refine (s _).mono ?_);rintro e x1 ⟨rfl,I⟩)
  |(go_at_call 313;(with_reducible refine (z _).mono ?_);rintro e x2 ⟨rfl,J⟩))
 all_goals
  go_wp2;go_ret2;exact ⟨rfl,ai (ai (aM (ak _ _)) I) J⟩
def Gs w key more text a (m:Nat)(n:Int)(hm:m<18446744073709551616)(C:∀W:World,Calls prog 104 #[S key,S (cF 2 m),S more,S text] W (Grown (.tuple #[S a, .int .i64 n]) W)):
 Calls prog 276 #[.int .i64 2,S key, .int .u64 m,S more,S text] w (Grown (.tuple #[S a, .int .i64 n]) w):=by
 have b:=Gu w;have s:=λW:World=>zQ W m hm;have z:=λW:World=>Gp W key (cF 2 m) more text a n C;have NA:=D4;have g:hJ 2= .iface 357 (.agg #[]):=rfl;rw[g]at b;generalize cF 2 m=O at*;clear C g;unfold S at*;go_enter func276,ntmps276;go_wp2_with fail;refine b.mono ?_;rintro e x ⟨rfl,rfl⟩;go_wp2_with fail;go_region_held3 (λ_=>True) (first|trivial) (first
  |(go_at_call 316;(with_reducible refine (s _).mono ?_);rintro e x1 ⟨rfl,I⟩)
  |(go_at_call 317;(with_reducible refine (z _).mono ?_);rintro e x2 ⟨rfl,J⟩))
 all_goals
  go_wp2;go_ret2;exact ⟨rfl,ai (ai (aM (ak _ _)) I) J⟩
end
section
def PP:Nat:=2^255-19
def sx:PP=57896044618658097711785492504343953926634992332820282019728792003956564819949:=wl
def Fp:0<PP:=by rw[sx];omega
def aU:Ln->Nat
 |[]=>0
 |a::l=>a+2251799813685248*aU l
def bU:Ln->Nat->Ln×Nat
 |[],c=>([],c)
 |a::l,c=>let r:=bU l ((a+c)/2251799813685248);((a+c)%2251799813685248::r.1,r.2)
def mg:∀(l:Ln) (c:Nat),(bU l c).1.length=l.length
 |[],_=>rfl
 |a::l,c=>by simp only[bU,eI,mg l]
def CI (a:Nat):∀(l:Ln) (c:Nat),bU (l++[a]) c=((bU l c).1++[(a+(bU l c).2)%2251799813685248],(a+(bU l c).2)/2251799813685248)
 |[],c=>rfl
 |b::l,c=>by simp only[pL,bU,CI a l]
def xL:∀(l:Ln) (c:Nat),aU (bU l c).1+2251799813685248^l.length*(bU l c).2=aU l+c
 |[],c=>by simp[bU,aU]
 |a::l,c=>by
  have b:=xL l ((a+c)/2251799813685248);simp only[bU,aU,eI];have e:2251799813685248^(l.length+1)*(bU l ((a+c)/2251799813685248)).2=2251799813685248*(2251799813685248^l.length*(bU l ((a+c)/2251799813685248)).2):=by rw[je,jH (2251799813685248^l.length),BV]
  rw[e];generalize 2251799813685248^l.length*(bU l ((a+c)/2251799813685248)).2=x at*;omega
def ud:∀(l:Ln) (c:Nat),∀x∈(bU l c).1,x<2251799813685248
 |[],_,x,h=>by simp[bU]at h
 |a::l,c,x,h=>by
  simp only[bU,bp]at h;rcases h with rfl|h
  ·exact dQ _ pm
  exact ud l _ x h
def zH (M:Nat):∀(l:Ln) (c:Nat),(∀x∈l,x+M<2251799813685248*(M+1))->c<=M->(bU l c).2<=M
 |[],c,_,b=>b
 |a::l,c,h,b=>by
  simp only[bU];refine zH M l _ (λx g=>h x (by simp[g])) ?_;have:=h a pu;have e:a+c<2251799813685248*(M+1):=pm
  have:=Nat.div_lt_of_lt_mul e;omega
def jj(l:Ln):Ln:=(bU l 0).1.set 0 ((bU l 0).1.getD 0 0+19*(bU l 0).2)
def fR(l:Ln):Ln:=jj (jj l)
def gR(l:Ln):Prop:=∃a t,l=a::t/\t.length=4/\a<=2251799813685266/\∀x∈t,x<2251799813685248
def gR.length (h:gR l):l.length=5:=by obtain ⟨a,t,rfl,b,_⟩:=h;simp[b]
def gR.le (h:gR l):∀x∈l,x<=2251799813685266:=by
 obtain ⟨a,t,rfl,g,e,h⟩:=h;intro x b;rcases bp.1 b with rfl|b
 ·exact e
 have:=h x b;omega
def OB (l:Ln)(h:0<l.length)(x:Nat):aU (l.set 0 (l.getD 0 0+x))=aU l+x:=by
 match l,h with
 |a::l,_=>simp only[iD,aU,BA];omega
def wP:(2251799813685248:Nat)^5=PP+19:=wl
def CH l:(jj l).length=l.length:=by unfold jj;rw[gL,mg]
def KX (l:Ln)(h:l.length=5):aU (jj l)%PP=aU l%PP:=by have e:=xL l 0;rw[h,wP]at e;simp only[jY]at e;unfold jj;rw[OB _ (by rw[mg];omega)];rw[<-e,rZ];rw[show aU (bU l 0).1+(PP*(bU l 0).2+19*(bU l 0).2)=aU (bU l 0).1+19*(bU l 0).2+PP*(bU l 0).2from pm,wU]
def xN (l:Ln)(h:l.length=5):aU (fR l)%PP=aU l%PP:=by unfold fR;rw[KX _ (by rw[CH,h]),KX _ h]
def FV (l:Ln)(M:Nat)(m:l.length=5)(h:∀x∈l,x+M<2251799813685248*(M+1)):∃a t,jj l=a::t/\t.length=4/\a<2251799813685248+19*M/\∀x∈t,x<2251799813685248:=by
 have g:=zH M l 0 h pm;have e:=ud l 0;have b:=mg l 0;unfold jj;generalize bU l 0=r at*;obtain ⟨z,C⟩:=r;simp only at g e b⊢;rw[m]at b
 match z,b with
 |a::t,b=>refine ⟨_,_,rfl,by simp at b;omega,?_,λx s=>e x (by simp[s])⟩;have:=e a pu;simp only[BA];omega
def xM (l:Ln)(h:l.length=5)(s:∀x∈l,x<=9223372036854775808):gR (fR l):=by
 obtain ⟨a,t,e,U,J,z⟩:=FV l 4096 h (λx g=>by have:=s x g;omega);obtain ⟨b,u,m,I,R,C⟩:=FV (jj l) 1 (by rw[CH,h]) (λx g=>by
  rw[e]at g;rcases bp.1 g with rfl|g
  ·omega
  have:=z x g;omega)
 exact ⟨b,u,m,I,pm,C⟩
def Full(l:Ln):Prop:=l.length=5/\∀x∈l,x<2251799813685248
def DN:∀l:Ln,(∀x∈l,x<2251799813685248)->aU l<2251799813685248^l.length
 |[],_=>by simp[aU]
 |a::l,h=>by have e:=DN l (λx b=>h x (by simp[b]));have:=h a pu;simp only[aU,eI,je];generalize 2251799813685248^l.length=z at*;omega
def KZ:∀l:Ln,(∀x∈l,x<2251799813685248)->bU l 0=(l,0)
 |[],_=>rfl
 |a::l,h=>by have:=h a pu;simp only[bU,jY];rw[Nat.div_eq_of_lt this,BN this,KZ l (λx b=>h x (by simp[b]))]
def Ts (h:Full l):jj l=l:=by
 unfold jj;rw[KZ l h.2]
 match l,h.1with
 |a::l,_=>rfl
def Tu (h:gR l):Full (jj l):=by
 have z:=h.length;have R:=zH 1 l 0 (λx g=>by have:=h.le x g;omega) pm;have C:=ud l 0;have s:=mg l 0;have m:=xL l 0;rw[z,wP]at m;simp only[jY]at m;obtain ⟨a,t,rfl,U,ha,a1⟩:=h;have I:=DN t a1;rw[U]at I;refine ⟨by rw[CH,z],?_⟩;unfold jj;generalize bU (a::t) 0=r at*;obtain ⟨r1,J⟩:=r;simp only at R C s m⊢;rw[z]at s
 match r1,s with
 |b::u,s=>
  intro x g;simp only[iD,BA]at g;rcases bp.1 g with rfl|g
  ·have hb:=C b pu;rcases (show J=0\/J=1 by omega)with e|e
   ·subst e;omega
   subst e;simp only[aU]at m;rw[sx]at m;simp only[Nat.reducePow]at I;omega
  exact C x (by simp[g])
def XL (l:Ln)(h:l.length=5)(e:∀x∈l,x<=9223372036854775808):Full (fR (fR l)):=by have b:=Tu (xM l h e);have:fR (fR l)=jj (fR l):=Ts b;rw[this];exact b
def Np (h:Full l):aU l<PP+19:=by have:=DN l h.2;rw[h.1,wP]at this;exact this
def uA(l:Ln):Ln:=(bU (l.set 0 (l.getD 0 0+19*(bU l 19).2)) 0).1
def ZG (h:Full l):Full (uA l)/\aU (uA l)=aU l%PP:=by
 have I:=Np h;have e:=h.1;have g:=xL l 19;have C:=DN _ (ud l 19);rw[mg,e,wP]at C;rw[e,wP]at g;have U:(bU l 19).2<=1:=by
  have J:=Fp;rcases eR (bU l 19).2 2with q|q
  ·omega
  have:=EW (PP+19) q;rw[sx]at*;omega
 have hF:Full (uA l):=by refine ⟨by unfold uA;rw[mg,gL,e],?_⟩;unfold uA;exact ud _ _
 refine ⟨hF,?_⟩;have m:=xL (l.set 0 (l.getD 0 0+19*(bU l 19).2)) 0;rw[gL,e,wP,OB l pm]at m;have s:=Np hF;unfold uA at s⊢;generalize (bU (l.set 0 (l.getD 0 0+19*(bU l 19).2)) 0)=r at*;obtain ⟨x,b⟩:=r;simp only at*;generalize aU (bU l 19).1=A at*;generalize (bU l 19).2=q at*;generalize aU x=R at*;generalize aU l=V at*;clear hF h e;have fH:b<=1:=by
  rcases eR b 2with z|z
  ·omega
  have:=EW (PP+19) z;rw[sx]at*;omega
 rw[sx]at*;rcases (show q=0\/q=1 by omega)with rfl|rfl
 ·rcases (show b=0\/b=1 by omega)with rfl|rfl
  ·omega
  omega
 rcases (show b=0\/b=1 by omega)with rfl|rfl
 ·omega
 omega
def DK (k:Nat):∀(j n:Nat),aP n (j+k)=aP n j++aP (n/256^j) k
 |0,n=>by rw[ef,BY,zh];rfl
 |j+1,n=>by rw[show j+1+k=(j+k)+1from pm];simp only[aP,pL];rw[DK k j (n/256),qJ,je,jH 256]
def Oo (n k:Nat):aP (n%256^k) k=aP n k:=by have e:=ZD n k;have b:=Zy (aP n k);rw[gE,e]at b;exact b
def wu (a b k:Nat)(g:a<2^k)(m:k<=64):a|||b*2^k%18446744073709551616=a+b*2^k%18446744073709551616:=by
 have e:(18446744073709551616:Nat)=2^(64-k)*2^k:=by rw[<-xu,show 64-k+k=64from pm]
 rw[e,Nat.mul_mod_mul_right,Nat.or_comm,jH,<-yT g,ze]
def Aw(a b:Nat):Nat:=a|||b*2251799813685248%18446744073709551616
def Ax(b c:Nat):Nat:=b/8192|||c*274877906944%18446744073709551616
def Az(c d:Nat):Nat:=c/67108864|||d*33554432%18446744073709551616
def AH(d e:Nat):Nat:=d/549755813888|||e*4096%18446744073709551616
def M7 (a b c d e:Nat)(J:a<2251799813685248)(R:b<2251799813685248)(U:c<2251799813685248)(hd:d<2251799813685248)(he:e<2251799813685248):
 aP (Aw a b) 8++aP (Ax b c) 8++aP (Az c d) 8++aP (AH d e) 8=aP (aU [a,b,c,d,e]) 32:=by
 have z:Aw a b=a+b*2251799813685248%18446744073709551616:=wu a b 51 pm pm;have g:Ax b c=b/8192+c*274877906944%18446744073709551616:=wu (b/8192) c 38 pm pm;have s:Az c d=c/67108864+d*33554432%18446744073709551616:=wu (c/67108864) d 25 pm pm;have C:AH d e=d/549755813888+e*4096%18446744073709551616:=wu (d/549755813888) e 12 pm pm;rw[z,g,s,C];clear z g s C;have I:aU [a,b,c,d,e]=a+2251799813685248*(b+2251799813685248*(c+2251799813685248*(d+2251799813685248*e))):=by simp[aU]
 rw[I,show(32:Nat)=8+(8+(8+8))from rfl,DK,DK,DK];simp only[Nat.reducePow,qJ,Nat.reduceMul];have x:∀n m:Nat,n%18446744073709551616=m%18446744073709551616->aP n 8=aP m 8:=λn m h=>by have g:=Oo n 8;have s:=Oo m 8;simp only[Nat.reducePow]at g s;rw[<-g,<-s,h]
 rw[dM,dM];congr 1
 ·exact x _ _ pm
 congr 1
 ·exact x _ _ pm
 congr 1
 ·exact x _ _ pm
 exact x _ _ pm
def Ec(u v:Nat):Nat:=(u/2251799813685248|||v*8192%18446744073709551616)%2251799813685248
def Ed(u v:Nat):Nat:=(u/274877906944|||v*67108864%18446744073709551616)%2251799813685248
def Ee(u v:Nat):Nat:=(u/33554432|||v*549755813888%18446744073709551616)%2251799813685248
def AQ(w0 e g b:Nat):Ln:=[w0%2251799813685248+19*(b/9223372036854775808),Ec w0 e,Ed e g,Ee g b,b/4096%2251799813685248]
def P8 (w0 b e g:Nat)(h0:w0<18446744073709551616)(h1:b<18446744073709551616)(I:e<18446744073709551616)(J:g<18446744073709551616):
 aU (AQ w0 b e g)%PP=(w0+18446744073709551616*(b+18446744073709551616*(e+18446744073709551616*g)))%PP/\∀x∈AQ w0 b e g,x<=9223372036854775808:=by
 have m:Ec w0 b=(w0/2251799813685248+b*8192%18446744073709551616)%2251799813685248:=by unfold Ec;rw[<-wu _ b 13 pm pm]
 have s:Ed b e=(b/274877906944+e*67108864%18446744073709551616)%2251799813685248:=by unfold Ed;rw[<-wu _ e 26 pm pm]
 have z:Ee e g=(e/33554432+g*549755813888%18446744073709551616)%2251799813685248:=by unfold Ee;rw[<-wu _ g 39 pm pm]
 unfold AQ;rw[m,s,z];clear m s z;constructor
 ·simp only[aU,vz,jY];have key:w0+18446744073709551616*(b+18446744073709551616*(e+18446744073709551616*g))=w0%2251799813685248+19*(g/9223372036854775808)+2251799813685248*((w0/2251799813685248+b*8192%18446744073709551616)%2251799813685248+2251799813685248*((b/274877906944+e*67108864%18446744073709551616)%2251799813685248+2251799813685248*((e/33554432+g*549755813888%18446744073709551616)%2251799813685248+2251799813685248*(g/4096%2251799813685248))))+57896044618658097711785492504343953926634992332820282019728792003956564819949*(g/9223372036854775808):=pm
  rw[key,sx,wU]
 intro x C;simp only[bp,dD,dH]at C;omega
def kJ(a b:Ln):Ln:=List.zipWith (·+·) a b
def PK:∀a b:Ln,a.length=b.length->aU (kJ a b)=aU a+aU b
 |[],[],_=>rfl
 |x::a,y::b,h=>by have e:=PK a b (by simpa using h);unfold kJ at e⊢;simp only[List.zipWith_cons_cons,aU,e];omega
def gV(a b:Ln):Ln:=(List.range 5).map λi=>a.getD i 0+9007199254740988-b.getD i 0-(if i=0then 72 else 0)
def j2 (a0 z C I J b g m s x:Nat)(h0:b<=2251799813685266)(h1:g<=2251799813685266)(R:m<=2251799813685266)(U:s<=2251799813685266)(h4:x<=2251799813685266):
 aU (gV [a0,z,C,I,J] [b,g,m,s,x])+aU [b,g,m,s,x]=aU [a0,z,C,I,J]+4*PP:=by
 have e:gV [a0,z,C,I,J] [b,g,m,s,x]=[a0+9007199254740988-b-72,z+9007199254740988-g-0,C+9007199254740988-m-0,I+9007199254740988-s-0,J+9007199254740988-x-0]:=rfl;rw[e,sx];simp only[aU,vz,jY,Nat.sub_zero];omega
def yJ(a b:Ln)(i k:Nat)(W:Ln):Ln:=
 W.set ((i+k)%5) (W.getD ((i+k)%5) 0+a.getD i 0*(if 5<=i+k then 19*b.getD k 0 else b.getD k 0))
def wO(a b:Ln)(i:Nat)(W:Ln):Nat->Ln
 |0=>W
 |k+1=>yJ a b i k (wO a b i W k)
def tw(a b:Ln):Nat->Ln
 |0=>[0,0,0,0,0]
 |i+1=>wO a b i (tw a b i) 5
def abK a b (i k:Nat) W:(yJ a b i k W).length=W.length:=by unfold yJ;rw[gL]
def JH a b (i:Nat) W:∀k,(wO a b i W k).length=W.length
 |0=>rfl
 |k+1=>by rw[wO,abK,JH a b i W k]
def QV a b:∀i,(tw a b i).length=5
 |0=>rfl
 |i+1=>by rw[tw,JH,QV a b i]
def uo (h:∀x∈l,x<=M)(i:Nat):l.getD i 0<=M:=by
 rw[dh];by_cases q:i<l.length
 ·rw[aW q];exact h _ (iE q)
 rw[eE pm];exact fE _
def PM {a b:Ln}(m:∀x∈a,x<=2251799813685266)(s:∀x∈b,x<=2251799813685266)(i k:Nat):a.getD i 0*(if 5<=i+k then 19*b.getD k 0 else b.getD k 0)<=100000000000000000000000000000000:=by
 have e:=uo m i;have z:=uo s k;have g:(if 5<=i+k then 19*b.getD k 0 else b.getD k 0)<=19*2251799813685266:=by split<;>omega
 exact bJ (Nat.mul_le_mul e g) ut
def abJ {a b:Ln}(m:∀x∈a,x<=2251799813685266)(s:∀x∈b,x<=2251799813685266)(e:∀x∈W,x<=M)(i k:Nat):∀x∈yJ a b i k W,x<=M+100000000000000000000000000000000:=by
 intro x g;have z:=PM m s i k;have C:=uo e ((i+k)%5);unfold yJ at g;rcases pH g with h|h
 ·have:=e x h;omega
 subst h;omega
def JG {a b W:Ln}{M:Nat}(m:∀x∈a,x<=2251799813685266)(s:∀x∈b,x<=2251799813685266)(g:∀x∈W,x<=M)(i:Nat):∀k,∀x∈wO a b i W k,x<=M+k*100000000000000000000000000000000
 |0=>λx e=>by have:=g x e;omega
 |k+1=>λx e=>by have:=abJ m s (JG m s g i k) i k x e;omega
def QU {a b:Ln}(g:∀x∈a,x<=2251799813685266)(m:∀x∈b,x<=2251799813685266):∀i,∀x∈tw a b i,x<=i*500000000000000000000000000000000
 |0=>λx e=>by simp[tw]at e;omega
 |i+1=>λx e=>by have:=JG g m (QU g m i) i 5 x e;omega
def p7 (a0 z s g b I C x m e:Nat):
 (a0+2251799813685248*z+2251799813685248^2*s+2251799813685248^3*g+2251799813685248^4*b)*(I+2251799813685248*C+2251799813685248^2*x+2251799813685248^3*m+2251799813685248^4*e)=
  (a0*I+19*(z*e+s*m+g*x+b*C))+2251799813685248*(a0*C+z*I+19*(s*e+g*m+b*x))+2251799813685248^2*(a0*x+z*C+s*I+19*(g*e+b*m))+2251799813685248^3*(a0*m+z*x+s*C+g*I+19*(b*e))+2251799813685248^4*(a0*e+z*m+s*x+g*C+b*I)
  +(57896044618658097711785492504343953926634992332820282019728792003956564819949)*((z*e+s*m+g*x+b*C)+2251799813685248*(s*e+g*m+b*x)+2251799813685248^2*(g*e+b*m)+2251799813685248^3*(b*e)):=dl
def Iu (a0 b e g m:Nat):aU [a0,b,e,g,m]=a0+2251799813685248*b+2251799813685248^2*e+2251799813685248^3*g+2251799813685248^4*m:=by simp only[aU,Nat.reducePow];omega
def abI (a0 C x m b I J z s g:Nat):aU (tw [a0,C,x,m,b] [I,J,z,s,g] 5)%PP=(aU [a0,C,x,m,b]*aU [I,J,z,s,g])%PP:=by
 have e:tw [a0,C,x,m,b] [I,J,z,s,g] 5=[
  0+a0*I+C*(19*g)+x*(19*s)+m*(19*z)+b*(19*J),
  0+a0*J+C*I+x*(19*g)+m*(19*s)+b*(19*z),
  0+a0*z+C*J+x*I+m*(19*g)+b*(19*s),
  0+a0*s+C*z+x*J+m*I+b*(19*g),
  0+a0*g+C*s+x*z+m*J+b*I]:=qr
 have k:aU [a0,C,x,m,b]*aU [I,J,z,s,g]=((a0*I+19*(C*g+x*s+m*z+b*J))+2251799813685248*(a0*J+C*I+19*(x*g+m*s+b*z))+2251799813685248^2*(a0*z+C*J+x*I+19*(m*g+b*s))+2251799813685248^3*(a0*s+C*z+x*J+m*I+19*(b*g))+2251799813685248^4*(a0*g+C*s+x*z+m*J+b*I))+PP*((C*g+x*s+m*z+b*J)+2251799813685248*(x*g+m*s+b*z)+2251799813685248^2*(m*g+b*s)+2251799813685248^3*(b*g)):=by rw[Iu a0,Iu I,p7,sx]
 have h:aU (tw [a0,C,x,m,b] [I,J,z,s,g] 5)=(a0*I+19*(C*g+x*s+m*z+b*J))+2251799813685248*(a0*J+C*I+19*(x*g+m*s+b*z))+2251799813685248^2*(a0*z+C*J+x*I+19*(m*g+b*s))+2251799813685248^3*(a0*s+C*z+x*J+m*I+19*(b*g))+2251799813685248^4*(a0*g+C*s+x*z+m*J+b*I):=by rw[e,Iu];clear e k;simp only[Nat.mul_left_comm _ 19 _];generalize a0*I=R;generalize a0*J=U;generalize a0*z=a5;generalize a0*s=a6;generalize a0*g=a7;generalize C*I=a8;generalize C*J=a9;generalize C*z=a';generalize C*s=b5;generalize C*g=b6;generalize x*I=b7;generalize x*J=b8;generalize x*z=b9;generalize x*s=b';generalize x*g=c0;generalize m*I=c1;generalize m*J=c2;generalize m*z=c3;generalize m*s=c4;generalize m*g=c5;generalize b*I=c6;generalize b*J=c7;generalize b*z=c8;generalize b*s=c9;generalize b*g=c';simp only[Nat.reducePow];omega
 rw[h,k];exact (wU _ _ _).symm
def om(W:Ln):Ln:=let r:=bU W 0;(r.1.set 0 (r.1.getD 0 0+19*(r.2%2251799813685248))).set 1 (r.1.getD 1 0+19*(r.2/2251799813685248))
def abG (W:Ln)(h:W.length=5):aU (om W)%PP=aU W%PP:=by
 have e:=xL W 0;have g:=mg W 0;rw[h,wP]at e;simp only[jY]at e;unfold om;generalize bU W 0=r at*;obtain ⟨s,b⟩:=r;simp only at*;rw[h]at g
 match s,g with
 |[x0,x1,x2,x3,x4],_=>
  rw[<-e];simp only[iD,ny,BA,List.getD_cons_succ,aU,vz,jY];have m:x0+19*(b%2251799813685248)+2251799813685248*(x1+19*(b/2251799813685248)+2251799813685248*(x2+2251799813685248*(x3+2251799813685248*x4)))=x0+2251799813685248*(x1+2251799813685248*(x2+2251799813685248*(x3+2251799813685248*x4)))+19*b:=pm
  rw[m,rZ,<-nC];generalize x0+2251799813685248*(x1+2251799813685248*(x2+2251799813685248*(x3+2251799813685248*x4)))=y;rw[show y+PP*b+19*b=(y+19*b)+PP*b from pm,wU]
end
section
open Go.RowKit
def dV(n:Nat):Value:= .int .u64 n
def N5(l:Ln):Value:= .agg (l.map dV).toArray
def NB(w:World)(B:Nat)(l:Ln):Prop:=ab w B 144 (l.map dV)
def zk(v:Nat)(w:World)(e:Ending)(w':World):Prop:=∃l,e= .returned (N5 l)/\gR l/\aU l%PP=v%PP/\w.grownBy w' none
def cX {b:Ln}(h:b.length=5):∃a0 e g m s,b=[a0,e,g,m,s]:=by
 match b,h with
 |[a0,e,g,m,s],_=>exact ⟨a0,e,g,m,s,rfl⟩
def NB.cell (h:NB w B l)(i:Nat)(b:i<l.length):w.cell? ⟨B,i,none⟩=some (.int .u64 (l[i]:Nat)):=by rw[ab.cell h];simp[dV,b]
def NB.frozen (h:NB w B l)(i:Nat):w.frozen? ⟨B,i,none⟩=false:=ab.frozen h i
def NB.set (h:NB w B l)(i n:Nat):NB (w.setCell ⟨B,i,none⟩ (.int .u64 n)) B (l.set i n):=by have:=ab.set h i (dV n);unfold NB;rw[pP];exact this
def NB.cX {a0 b e g m:Nat}(h:NB w B [a0,b,e,g,m]):
 (w.cell? ⟨B,0,none⟩=some (.int .u64 a0)/\w.cell? ⟨B,1,none⟩=some (.int .u64 b)/\w.cell? ⟨B,2,none⟩=some (.int .u64 e)/\w.cell? ⟨B,3,none⟩=some (.int .u64 g)/\w.cell? ⟨B,4,none⟩=some (.int .u64 m))/\
 w.frozen? ⟨B,0,none⟩=false/\w.frozen? ⟨B,1,none⟩=false/\w.frozen? ⟨B,2,none⟩=false/\w.frozen? ⟨B,3,none⟩=false/\w.frozen? ⟨B,4,none⟩=false:=
 ⟨⟨h.cell 0 pu,h.cell 1 pu,h.cell 2 pu,h.cell 3 pu,h.cell 4 pu⟩,h.frozen 0,h.frozen 1,h.frozen 2,h.frozen 3,h.frozen 4⟩
def th (c:Nat)(b:c<18446744073709551616):bits .and .u64 (c:Int) 2251799813685247=((c%2251799813685248:Nat):Int):=by have:=rY c 2251799813685247 b pm;rw[show((2251799813685247:Nat):Int)=2251799813685247from rfl]at this;rw[this];congr 1;exact Nat.and_two_pow_sub_one_eq_mod c 51
def vX {a:World}(h:a.grownBy w r)(b:a.heap.size<=B)(e g m s x:Value):a.grownBy (((((w.setCell ⟨B,0,none⟩ e).setCell ⟨B,1,none⟩ g).setCell ⟨B,2,none⟩ m).setCell ⟨B,3,none⟩ s).setCell ⟨B,4,none⟩ x) r:=
 cj (cj (cj (cj (cj h _ b _) _ b _) _ b _) _ b _) _ b _
def mh(L:Ln)(i:Nat):Ln:=(bU (L.take i) 0).1++L.drop i
def FW L (i:Nat):(mh L i).length=L.length:=by unfold mh;rw[aK,mg,aJ,aR];omega
def Lc (L:Ln)(i:Nat)(b:i<L.length):(mh L i)[i]'(by rw[FW];exact b)=L[i]:=by
 have:(bU (L.take i) 0).1.length=i:=by rw[mg,aJ];omega
 unfold mh;rw[uV pm,vh];congr 1;omega
def Ld (L:Ln)(i:Nat)(b:i<L.length):(mh L i).set i ((L[i]+(bU (L.take i) 0).2)%2251799813685248)=mh L (i+1)/\(bU (L.take (i+1)) 0).2=(L[i]+(bU (L.take i) 0).2)/2251799813685248:=by
 have m:(bU (L.take i) 0).1.length=i:=by rw[mg,aJ];omega
 have e:L.drop i=L[i]::L.drop (i+1):=jV b;have g:L.take (i+1)=L.take i++[L[i]]:=fP b;unfold mh;rw[g,CI,kp _ _ pm,m,il,e,iD];exact ⟨by rw[dM];rfl,rfl⟩
def zJ(l:Ln):Nat->Ln
 |0=>l
 |r+1=>jj (zJ l r)
def Tt (l:Ln)(g:l.length=5)(h:∀x∈l,x<=9223372036854775808):∀x∈jj l,x<=9223372036854775808:=by
 obtain ⟨a,t,e,z,s,m⟩:=FV l 4096 g (λx b=>by have:=h x b;omega);intro x b;rw[e]at b;rcases bp.1 b with rfl|b
 ·omega
 have:=m x b;omega
def xS w (l:Ln)(hl:l.length=5)(hb:∀x∈l,x<=9223372036854775808):
 Calls prog 140 #[N5 l] w (Grown (N5 (fR l)) w):=by
 obtain ⟨B,hB⟩:=kq w.heap.size;obtain ⟨x,hx⟩:=kq ((w.alloc (.cells (l.map dV).toArray 144)).alloc (.cells #[.int .u64 0, .int .u64 0, .int .u64 0, .int .u64 0, .int .u64 0] 144));have bN:NB x B l:=by rw[hx,hB];exact cG (aO w _)
 have s:NB x (B+1) [0,0,0,0,0]:=by have:=aO (w.alloc (.cells (l.map dV).toArray 144)) (.cells #[.int .u64 0, .int .u64 0, .int .u64 0, .int .u64 0, .int .u64 0] 144);rw[show(w.alloc (.cells (l.map dV).toArray 144)).heap.size=B+1from by rw[hB];simp]at this;rw[hx];exact this
 have b6:w.grownBy x none:=by rw[hx];exact aF (aF (ak w none) _) _
 have HV:Hid (zJ l 2=fR l):=Hq rfl;have c5:w.heap.size<=B:=pm
 generalize c1:fR l=V at*;clear c1;have HN:=Hq bN;have HR:=Hq s;have HG:=Hq b6;have HB:=Hq hB;have HX:=Hq hx;have HL:=Hq (And.intro hl hb);clear bN s b6 hB hx hl hb;unfold N5;go_enter func140,ntmps140;go_wp2_with fail;rw[<-HB.out,<-HX.out];go_loopw [3,4,5,7] (λv3 v4 vr v7 wr=>∃(r:Nat) (L:Ln),r<=2/\vr= .int .i64 r/\Hid (L=zJ l r)/\Hid (L.length=5/\∀x∈L,x<=9223372036854775808)/\Hid (NB wr B L)/\Hid (x.grownBy wr (some B))) (λ_ _ vr _ _=>2-(intOf vr).toNat)
 case atStart=>exact ⟨0,l,pm,rfl,Hq rfl,HL,HN,Hq (ak _ _)⟩
 case round=>
  clear HL HN HX;obtain ⟨r,L,hr,rfl,a8,b,hN,e⟩:=hrel;by_cases c6:r<2
  ·have hd:decide ((r:Int)<2)=true:=pp;go_wp2_with fail;go_loopw [3,4,7] (λv3 v4 vi wr=>∃(i c:Nat),i<=5/\vi= .int .i64 i/\v3= .int .u64 c/\c<=4096/\Hid (c=(bU (L.take i) 0).2)/\Hid (NB wr B (mh L i))/\Hid (x.grownBy wr (some B))) (λ_ _ vi _=>5-(intOf vi).toNat)
   case atStart=>exact ⟨0,0,pm,rfl,rfl,pm,Hq rfl,Hq (by show NB _ _ ([]++L.drop 0);rw[oA,kP];exact hN.out),e⟩
   case round=>
    clear hN e;obtain ⟨i,c,hi,rfl,rfl,hc,a',m,e⟩:=hrel;by_cases c4:i<5
    ·have R:i<L.length:=by rw[b.out.1];exact c4
     have c8:=b.out.2 L[i] (iE R);have cl:=m.out.cell i (by rw[FW];exact R);rw[Lc L i R]at cl;have fr:=m.out.frozen i;obtain ⟨n1,n2⟩:=Ld L i R;rw[<-a'.out]at n1 n2;have g:=(m.out.set i (L[i]+c)).set i ((L[i]+c)%2251799813685248);rw[BZ,n1]at g;have I:=aw (aw e.out i (.int .u64 (L[i]+c:Nat))) i (.int .u64 ((L[i]+c)%2251799813685248:Nat));have HS:=Hq (And.intro g I);have b9:=Hq n2;generalize L[i]=z at*;have m1:bits .and .u64 ((z:Int)+(c:Int)) 2251799813685247=(((z+c)%2251799813685248:Nat):Int):=by have:=th (z+c) pm;simpa using this
     have c2:(z+c)/2251799813685248<=4096:=pm;clear g I n1 n2 m e R;have U:NB ((wr.setCell ⟨B,i,none⟩ (.int .u64 ((z:Int)+(c:Int)))).setCell ⟨B,i,none⟩ (.int .u64 (((z:Int)+(c:Int))%2251799813685248))) B (mh L (i+1)):=by simpa using HS.out.1
     have J:x.grownBy ((wr.setCell ⟨B,i,none⟩ (.int .u64 ((z:Int)+(c:Int)))).setCell ⟨B,i,none⟩ (.int .u64 (((z:Int)+(c:Int))%2251799813685248))) (some B):=by simpa using HS.out.2
     have a6:=Hq U;have a7:=Hq J;clear U J HS;go_wp2;go_roundw
     case rel=>exact ⟨i+1,(z+c)/2251799813685248,pm,by go_num,by congr 1,c2,Hq b9.out.symm,a6,a7⟩
     case measure=>simp[intOf];omega
    obtain rfl:i=5:=pm;have e5:mh L 5=(bU L 0).1:=by unfold mh;rw[cE (by have:=b.out.1;omega),iP (by have:=b.out.1;omega),ev]
    have ec:c=(bU L 0).2:=by have:=a'.out;rwa[cE (by have:=b.out.1;omega)]at this
    have C:=m.out;rw[e5]at C;have a5:0<(bU L 0).1.length:=(by rw[mg,b.out.1];omega);have c0:=C.cell 0 a5;have f0:=C.frozen 0;have c7:=ud L 0 (bU L 0).1[0] (iE a5);have g:=C.set 0 ((bU L 0).1[0]+19*c);have b3:(bU L 0).1.set 0 ((bU L 0).1[0]+19*c)=jj L:=by unfold jj;rw[ec,dh,aW a5];rfl
    rw[b3]at g;have I:=aw e.out 0 (.int .u64 ((bU L 0).1[0]+19*c:Nat));have b4:=Tt L b.out.1 b.out.2;have b5:=CH L;have b7:=Hq (And.intro (b5.trans b.out.1) b4);have b8:=Hq (show jj L=zJ l (r+1)from by rw[zJ,<-a8.out]);generalize (bU L 0).1[0]=z at*;have U:NB (wr.setCell ⟨B,0,none⟩ (.int .u64 ((z:Int)+19*(c:Int)))) B (jj L):=by simpa using g
    have J:x.grownBy (wr.setCell ⟨B,0,none⟩ (.int .u64 ((z:Int)+19*(c:Int)))) (some B):=by simpa using I
    have a6:=Hq U;have a7:=Hq J;clear g I U J b3 b4 b5 C e5 ec a5 m e a';go_wp2;go_roundw
    case rel=>exact ⟨r+1,jj L,pm,by go_num,b8,b7,a6,a7⟩
    case measure=>simp[intOf];omega
  obtain rfl:r=2:=pm
  have b1:L=V:=by rw[a8.out,HV.out]
  obtain ⟨a0,a1,a2,a3,a4,h5⟩:=cX b.out.1;have s:=ab.kept HR.out e.out pu;have a9:=hN.out;rw[h5]at a9;have b2:V=[a0,a1,a2,a3,a4]:=by rw[<-b1,h5]
  obtain ⟨⟨k0,k1,k2,k3,k4⟩,_⟩:=a9.cX;have b0:NB wr (B+1) [0,0,0,0,0]:=s;obtain ⟨⟨z0,z1,z2,z3,z4⟩,f0,f1,f2,f3,f4⟩:=b0.cX;have b':=Hq b2;have c3:=Hq (vX (B:=B+1) (cJ HG.out e.out (by have:=HB.out;omega)) (by have:=HB.out;omega) (.int .u64 a0) (.int .u64 a1) (.int .u64 a2) (.int .u64 a3) (.int .u64 a4));clear b1 h5 a9 b2 s b0 a8 b hN e;go_wp2_with fail;refine bodyPost_ret (v:= .agg #[.int .u64 a0, .int .u64 a1, .int .u64 a2, .int .u64 a3, .int .u64 a4]) (by simp[results,results140,go_sem,z0,z1,z2,z3,z4]) rfl ?_;exact ⟨by rw[b'.out];rfl,c3.out⟩
end
section
open Go.RowKit
def NV(w:World)(B v:Nat):Prop:=∃l,NB w B l/\gR l/\aU l%PP=v%PP
def mJ(v:Nat)(x:Value):Prop:=∃l,x=N5 l/\gR l/\aU l%PP=v%PP
def NV.kept (h:NV w B v)(g:w.grownBy w' r)(s:some B≠r):NV w' B v:=by obtain ⟨l,b,e,m⟩:=h;exact ⟨l,ab.kept b g s,e,m⟩
def NV.uz (h:NV w B v)(g:w.grownBy w' none):NV w' B v:=h.kept g pu
def NV.lt (h:NV w B v):B<w.heap.size:=by obtain ⟨l,b,_⟩:=h;exact ab.lt b
inductive Kd where
 |val (d v:Nat)
 |iv (d:Nat)
 |gZ (m p v:Nat)
 |aN (p B u v:Nat)
def Kd.dst:Kd->Option Nat
 | .val d _=>some d
 | .iv d=>some d
 | .gZ _ _ _=>none
 | .aN _ _ _ _=>none
def ptrTo(k:Nat):Value:= .pointer (some ⟨k,0,none⟩)
structure xC(D:Ln)(w w':World):Prop where
 size:w.heap.size<=w'.heap.size
 block:∀b,b<w.heap.size->b∉D->w'.heap[b]?=w.heap[b]?
def xC.grow (h:xC D w0 w)(g:w.grownBy w' r)(x:∀k,r=some k->w0.heap.size<=k\/k∈D):xC D w0 w':=
 ⟨bJ h.size g.size,λb s m=>by rw[g.block b (fW s h.size) (by intro e;rcases x b e.symm with h|h;omega;exact m h),h.block b s m]⟩
def NV.keptBut (h:NV w B v)(k:xC D w w')(m:B∉D):NV w' B v:=by have s:=h.lt;obtain ⟨l,b,e,g⟩:=h;exact ⟨l,by unfold NB ab at b⊢;rw[k.block B s m];exact b,e,g⟩
structure iH(wb w0:World)(a0:Act)(W D:Ln)(ops:Array Oper)(ks:List Kd)(L:Nat->Bool)(a:Act)(w:World):Prop where
 base:wb.grownBy w none
 kept:xC D w0 w
 size:a.tmps.size=a0.tmps.size
 defs:a.defers=a0.defers
 same:∀s,s∉W->a.tmps[s]?=a0.tmps[s]?
 closed:∀(i:Nat) (o:Oper),ops[i]?=some o->L i=true->∀e∈o.after,Region.binds .any e=true->L e.on=true
 val:∀i d v,ks[i]?=some (.val d v)->L i=true->mJ v (a.tmps.getD d undef)
 iv:∀i d,ks[i]?=some (.iv d)->L i=true->∃k u,a.tmps.getD d undef=ptrTo k/\w0.heap.size<=k/\NV w k u
 gZ:∀i m p v,ks[i]?=some (.gZ m p v)->L i=true->L m=true/\ks[m]?=some (.iv p)/\∃k,a.tmps.getD p undef=ptrTo k/\w0.heap.size<=k/\NV w k v
 aN:∀i p B u v,ks[i]?=some (.aN p B u v)->NV w B (if L i=true then v else u)
 apart:∀i j d d',ks[i]?=some (.iv d)->ks[j]?=some (.iv d')->i≠j->L i=true->L j=true->a.tmps.getD d undef≠a.tmps.getD d' undef
structure sm(wb w0:World)(a0:Act)(W D:Ln)(ks:List Kd):Prop where
 base:wb.heap.size<=w0.heap.size
 Iq:∀(i p B u v:Nat),ks[i]?=some (.aN p B u v)->B∈D/\B<w0.heap.size/\wb.heap.size<=B/\p∉W/\a0.tmps.getD p undef=ptrTo B
 differ:∀(i j p B u v p' B' u' v':Nat),ks[i]?=some (.aN p B u v)->ks[j]?=some (.aN p' B' u' v')->i≠j->B≠B'
def rE(W:Ln)(n:Nat)(ks:List Kd):Bool:=
 (List.range ks.length).all λi=>(List.range ks.length).all λj=>
  match ks[i]?,ks[j]?with
  |some x,some y=>
   (match x.dst with
    |some d=>W.contains d&&decide (d<n)&&(i==j||y.dst !=some d)
    |none=>true)&&
   (match x,y with
    | .gZ m _ _, .gZ b _ _=>i==j||m !=b
    | .gZ m p _,_=>(match ks[m]?with|some (.iv e)=>p==e|_=>false)
    |_,_=>true)
  |_,_=>true
def yn {ks:List Kd}(h:rE W n ks=true){x y:Kd}(z:ks[i]?=some x)(C:ks[j]?=some y):
 (∀d,x.dst=some d->d∈W/\d<n/\(i≠j->y.dst≠some d))/\(∀m p v s p' I,x= .gZ m p v->y= .gZ s p' I->i≠j->m≠s):=by
 unfold rE at h;have e:=nA.1 (nA.1 h i (pM.2 (mD.1 z).1)) j (pM.2 (mD.1 C).1);rw[z,C]at e;simp only[fY]at e;refine ⟨λd J=>?_,λm p v s p' I R U g=>?_⟩
 ·have b:=e.1;rw[J]at b;simp only[fY,kr,xo,sd,dY,EP]at b;exact ⟨b.1.1,b.1.2,λg=>b.2.resolve_left g⟩
 have b:=e.2;subst R U;simp only[xo,sd,dY]at b;exact b.resolve_left g
def waits(o:Oper)(n:Nat):Bool:=o.after.any λe=>Region.binds .any e&&e.on==n
def yL (h:waits o n=true)(g:∀e∈o.after,Region.binds .any e=true->L e.on=true):L n=true:=by unfold waits at h;obtain ⟨e,m,b⟩:=Array.any_eq_true'.1 h;simp only[fY,sd]at b;have:=g e m b.1;rwa[b.2]at this
def Fits(P:Program)(T:TypeId)(ops:Array Oper)(Q:Exit->Act->World->Prop)(wb w0:World)(a0:Act)(W D:Ln)(ks:List Kd)(i:Nat)(o:Oper):Kd->Prop
 | .val d v=>∀(L:Nat->Bool) (a:Act) (w:World) (K:Act->World->Prop),iH wb w0 a0 W D ops ks L a w->L i=false->(∀e∈o.after,Region.binds .any e=true->L e.on=true)->
  (∀x w',mJ v x->w.grownBy w' none->K (a.put (some d) x) w')->o.wp P a w K Q
 | .iv d=>o.op= .alloc T/\o.dst=some d
 | .gZ m p v=>∃q n,o.op= .store T (.tmp p) (.tmp q)/\o.dst=none/\ks[n]?=some (.val q v)/\ks[m]?=some (.iv p)/\waits o n=true/\waits o m=true
 | .aN p B u v=>∃q n,o.op= .store T (.tmp p) (.tmp q)/\o.dst=none/\ks[n]?=some (.val q v)/\waits o n=true
def zW (a:Act)(d:Nat) x (h:d<a.tmps.size):(a.put (some d) x).tmps.getD d undef=x:=by simp[Act.put,h]
def nO (a:Act)(d s:Nat) x (h:d≠s):(a.put (some d) x).tmps.getD s undef=a.tmps.getD s undef:=by simp[Act.put,qH h]
def Hh (a:Act)(d s:Nat) x (h:d≠s):(a.put (some d) x).tmps[s]?=a.tmps[s]?:=by simp[Act.put,qH h]
section
variable{wb w0:World}{a0:Act}{W D:Ln}{ops:Array Oper}{ks:List Kd}{L:Nat->Bool}{a:Act}{w:World}
def gW (h:(j==i||L j)=true):j=i\/(j≠i/\L j=true):=by
 by_cases e:j=i
 ·exact Or.inl e
 right;have:(j==i)=false:=by simpa using e
 rw[this,jX]at h;exact ⟨e,h⟩
def iH.CL (I:iH wb w0 a0 W D ops ks L a w)(C:ops[i]?=some o)(z:∀e∈o.after,Region.binds .any e=true->L e.on=true):
 ∀(j:Nat) (b:Oper),ops[j]?=some b->(j==i||L j)=true->∀e∈b.after,Region.binds .any e=true->(e.on==i||L e.on)=true:=by
 intro j b m g e x s;rcases gW g with rfl|⟨_,g⟩
 ·rw[C]at m;obtain rfl:o=b:=by simpa using m
  simp[z e x s]
 simp[I.closed j b m g e x s]
def iH.aaP (hk:rE W a0.tmps.size ks=true)(ol:sm wb w0 a0 W D ks)(I:iH wb w0 a0 W D ops ks L a w)(ho:ops[i]?=some o)(a3:∀e∈o.after,Region.binds .any e=true->L e.on=true)(J:ks[i]?=some (.val d v)){x}(hx:mJ v x)(hg:w.grownBy w' none):
 iH wb w0 a0 W D ops ks (λj=>j==i||L j) (a.put (some d) x) w':=by
 have hd:=(yn hk J J).1 d rfl;have ne:∀j y C,ks[j]?=some y->j≠i->y.dst=some C->d≠C:=λj y C b R hy e=>by subst e;exact ((yn hk J b).1 d rfl).2.2 (Ne.symm R) hy
 refine ⟨ai I.base hg,I.kept.grow hg pu,by simp[Act.put,I.size],by simp[Act.put,I.defs],λs hs=>?_,I.CL ho a3,?_,?_,?_,?_,?_⟩
 ·rw[Hh _ _ _ _ (λe=>hs (by rw[<-e];exact hd.1))];exact I.same s hs
 ·intro j C v' b z;rcases gW z with rfl|⟨R,z⟩
  ·rw[J]at b;obtain ⟨rfl,rfl⟩:d=C/\v=v':=by simpa using b
   rw[zW _ _ _ (by rw[I.size];exact hd.2.1)];exact hx
  rw[nO _ _ _ _ (ne j _ C b R rfl)];exact I.val j C v' b z
 ·intro j C b z;rcases gW z with rfl|⟨R,z⟩
  ·rw[J]at b;cases b
  rw[nO _ _ _ _ (ne j _ C b R rfl)];obtain ⟨k,u,g,U,h3⟩:=I.iv j C b z;exact ⟨k,u,g,U,h3.uz hg⟩
 ·intro j m p v' b z;rcases gW z with rfl|⟨R,z⟩
  ·rw[J]at b;cases b
  obtain ⟨h0,g,k,U,h3,h4⟩:=I.gZ j m p v' b z;have a4:m≠i:=by intro e;subst e;rw[J]at g;cases g
  rw[nO _ _ _ _ (ne m _ p g a4 rfl)];exact ⟨by simp[h0],g,k,U,h3,h4.uz hg⟩
 ·intro j p B u v' b;have R:j≠i:=by intro e;subst e;rw[J]at b;cases b
  have e:(j==i||L j)=L j:=by
   have:(j==i)=false:=by simpa using R
   rw[this,jX]
  rw[e];exact (I.aN j p B u v' b).uz hg
 intro j j' d1 d2 g U R a1 a2;rcases gW a1 with rfl|⟨a5,a1⟩
 ·rw[J]at g;cases g
 rcases gW a2 with rfl|⟨a6,a2⟩
 ·rw[J]at U;cases U
 rw[nO _ _ _ _ (ne j _ d1 g a5 rfl),nO _ _ _ _ (ne j' _ d2 U a6 rfl)];exact I.apart j j' d1 d2 g U R a1 a2
def iH.aaM (hk:rE W a0.tmps.size ks=true)(ol:sm wb w0 a0 W D ks)(I:iH wb w0 a0 W D ops ks L a w)(ho:ops[i]?=some o)(a7:∀e∈o.after,Region.binds .any e=true->L e.on=true)(a6:L i=false)(R:ks[i]?=some (.iv d))(hg:w.grownBy w' none)(hn:NV w' w.heap.size 0):
 iH wb w0 a0 W D ops ks (λj=>j==i||L j) (a.put (some d) (ptrTo w.heap.size)) w':=by
 have hd:=(yn hk R R).1 d rfl;have ne:∀j y g,ks[j]?=some y->j≠i->y.dst=some g->d≠g:=λj y g b C hy e=>by subst e;exact ((yn hk R b).1 d rfl).2.2 (Ne.symm C) hy
 have aN:∀j g,ks[j]?=some (.iv g)->L j=true->a.tmps.getD g undef≠ptrTo w.heap.size:=λj g b z e=>by
  obtain ⟨k,u,x,_,h3⟩:=I.iv j g b z;rw[x]at e;have:k=w.heap.size:=by unfold ptrTo at e;injection e with e;injection e with e;injection e
  have:=h3.lt;omega
 refine ⟨ai I.base hg,I.kept.grow hg pu,by simp[Act.put,I.size],by simp[Act.put,I.defs],λs hs=>?_,I.CL ho a7,?_,?_,?_,?_,?_⟩
 ·rw[Hh _ _ _ _ (λe=>hs (by rw[<-e];exact hd.1))];exact I.same s hs
 ·intro j g v' b z;rcases gW z with rfl|⟨C,z⟩
  ·rw[R]at b;cases b
  rw[nO _ _ _ _ (ne j _ g b C rfl)];exact I.val j g v' b z
 ·intro j g b z;rcases gW z with rfl|⟨C,z⟩
  ·rw[R]at b;obtain rfl:d=g:=by simpa using b
   rw[zW _ _ _ (by rw[I.size];exact hd.2.1)];exact ⟨w.heap.size,0,rfl,I.kept.size,hn⟩
  rw[nO _ _ _ _ (ne j _ g b C rfl)];obtain ⟨k,u,x,J,h3⟩:=I.iv j g b z;exact ⟨k,u,x,J,h3.uz hg⟩
 ·intro j m p v' b z;rcases gW z with rfl|⟨C,z⟩
  ·rw[R]at b;cases b
  obtain ⟨h0,x,k,J,h3,h4⟩:=I.gZ j m p v' b z;by_cases a3:m=i
  ·subst a3;rw[R]at x;obtain rfl:d=p:=by simpa using x
   rw[a6]at h0;cases h0
  rw[nO _ _ _ _ (ne m _ p x a3 rfl)];exact ⟨by simp[h0],x,k,J,h3,h4.uz hg⟩
 ·intro j p B u v' b;have C:j≠i:=by intro e;subst e;rw[R]at b;cases b
  have e:(j==i||L j)=L j:=by
   have:(j==i)=false:=by simpa using C
   rw[this,jX]
  rw[e];exact (I.aN j p B u v' b).uz hg
 intro j j' d1 d2 x J C a5 U;rcases gW a5 with rfl|⟨a4,a2⟩
 ·rcases gW U with rfl|⟨a1,U⟩
  ·exact absurd rfl C
  rw[R]at x;obtain rfl:d=d1:=by simpa using x
  rw[zW _ _ _ (by rw[I.size];exact hd.2.1),nO _ _ _ _ (ne j' _ d2 J a1 rfl)];exact λe=>aN j' d2 J U e.symm
 rcases gW U with rfl|⟨a1,U⟩
 ·rw[R]at J;obtain rfl:d=d2:=by simpa using J
  rw[zW _ _ _ (by rw[I.size];exact hd.2.1),nO _ _ _ _ (ne j _ d1 x a4 rfl)];exact aN j d1 x a2
 rw[nO _ _ _ _ (ne j _ d1 x a4 rfl),nO _ _ _ _ (ne j' _ d2 J a1 rfl)];exact I.apart j j' d1 d2 x J C a2 U
def iH.aaO (hk:rE W a0.tmps.size ks=true)(ol:sm wb w0 a0 W D ks)(I:iH wb w0 a0 W D ops ks L a w){m:Nat}(ho:ops[i]?=some o)(a4:∀e∈o.after,Region.binds .any e=true->L e.on=true)(a8:L i=false)(C:ks[i]?=some (.gZ m p v))(hm:ks[m]?=some (.iv p))(a3:L m=true)
 (hp:a.tmps.getD p undef=ptrTo k) (a5:w0.heap.size<=k) (hg:w.grownBy w' (some k)) (hn:NV w' k v):
 iH wb w0 a0 W D ops ks (λj=>j==i||L j) a w':=by
 refine ⟨cJ I.base hg (by have:=ol.base;omega),I.kept.grow hg (λb e=>Or.inl (by injection e with e;omega)),I.size,I.defs,I.same,I.CL ho a4,?_,?_,?_,?_,?_⟩
 ·intro j d' R g s;rcases gW s with rfl|⟨J,s⟩
  ·rw[C]at g;cases g
  exact I.val j d' R g s
 ·intro j d' g s;rcases gW s with rfl|⟨J,s⟩
  ·rw[C]at g;cases g
  obtain ⟨U,u,x,z,h3⟩:=I.iv j d' g s;by_cases e:U=k
  ·subst e;exact ⟨U,v,x,z,hn⟩
  exact ⟨U,u,x,z,h3.kept hg (by simpa using e)⟩
 ·intro j m' p' R g s;rcases gW s with rfl|⟨J,s⟩
  ·rw[C]at g;obtain ⟨rfl,rfl,rfl⟩:m=m'/\p=p'/\v=R:=by simpa using g
   exact ⟨by simp[a3],hm,k,hp,a5,hn⟩
  obtain ⟨h0,x,U,z,h3,h4⟩:=I.gZ j m' p' R g s;have a7:m'≠m:=(yn hk g C).2 _ _ _ _ _ _ rfl rfl J;have a6:U≠k:=by intro e;subst e;exact I.apart m' m p' p x hm a7 h0 a3 (by rw[z,hp])
  exact ⟨by simp[h0],x,U,z,h3,h4.kept hg (by simpa using a6)⟩
 ·intro j p' B u R g;have J:j≠i:=by intro e;subst e;rw[C]at g;cases g
  have e:(j==i||L j)=L j:=by
   have:(j==i)=false:=by simpa using J
   rw[this,jX]
  rw[e];have hB:=(ol.Iq j p' B u R g).2.1;exact (I.aN j p' B u R g).kept hg pp
 intro j j' d1 d2 x z J a1 a2;rcases gW a1 with rfl|⟨a9,a1⟩
 ·rw[C]at x;cases x
 rcases gW a2 with rfl|⟨a',a2⟩
 ·rw[C]at z;cases z
 exact I.apart j j' d1 d2 x z J a1 a2
def iH.aaN (ol:sm wb w0 a0 W D ks)(I:iH wb w0 a0 W D ops ks L a w)(ho:ops[i]?=some o)(a3:∀e∈o.after,Region.binds .any e=true->L e.on=true)(s:ks[i]?=some (.aN p B u v)) (R:w.grownBy w' (some B)) (hn:NV w' B v):iH wb w0 a0 W D ops ks (λj=>j==i||L j) a w':=by
 obtain ⟨b1,b2,b3,_,_⟩:=ol.Iq i p B u v s;refine ⟨cJ I.base R b3,I.kept.grow R (λb e=>Or.inr (by injection e with e;subst e;exact b1)),I.size,I.defs,I.same,I.CL ho a3,?_,?_,?_,?_,?_⟩
 ·intro j d' J g m;rcases gW m with rfl|⟨x,m⟩
  ·rw[s]at g;cases g
  exact I.val j d' J g m
 ·intro j d' g m;rcases gW m with rfl|⟨x,m⟩
  ·rw[s]at g;cases g
  obtain ⟨k',u,z,C,h3⟩:=I.iv j d' g m;exact ⟨k',u,z,C,h3.kept R pp⟩
 ·intro j m' U J g m;rcases gW m with rfl|⟨x,m⟩
  ·rw[s]at g;cases g
  obtain ⟨h0,z,k',C,h3,h4⟩:=I.gZ j m' U J g m;exact ⟨by simp[h0],z,k',C,h3,h4.kept R pp⟩
 ·intro j U B' u' J g;by_cases x:j=i
  ·subst x;rw[s]at g;obtain ⟨rfl,rfl,rfl,rfl⟩:p=U/\B=B'/\u=u'/\v=J:=by simpa using g
   simp[hn]
  have e:(j==i||L j)=L j:=by
   have:(j==i)=false:=by simpa using x
   rw[this,jX]
  rw[e];have hB:=ol.differ i j p B u v U B' u' J s g (λe=>x e.symm);exact (I.aN j U B' u' J g).kept R (by simp;exact λe=>hB e.symm)
 intro j j' d1 d2 z C x a1 a2;rcases gW a1 with rfl|⟨a4,a1⟩
 ·rw[s]at z;cases z
 rcases gW a2 with rfl|⟨a5,a2⟩
 ·rw[s]at C;cases C
 exact I.apart j j' d1 d2 z C x a1 a2
end
def acW (w:World):NV (w.alloc (.cells #[.int .u64 0, .int .u64 0, .int .u64 0, .int .u64 0, .int .u64 0] 144)) w.heap.size 0:=
 ⟨[0,0,0,0,0],aO w _,⟨0,[0,0,0,0],rfl,rfl,pm,pu⟩,wl⟩
def x' {b:Ln}(h:NB w B l)(e:b.length=l.length):NB (w.setCells B 0 (b.map dV)) B b:=by
 rcases yF B (b.map dV) 0 w (l.map dV) _ h with g|g
 ·have q:((l.map dV).take 0++b.map dV++(l.map dV).drop (0+(b.map dV).length)).take (l.map dV).length=b.map dV:=by rw[rW,kP,ef,iP pp,ev,cE pp]
  rw[q]at g;exact g
 simp at g;omega
def E6:prog.underlying 144=some (.array 5 97):=underlying144
def Pc:(prog.info? 144).map (·.size)=some 5:=qr
def E7 (w:World):(Instr.alloc 144 true (.tuple #[])).run prog w= .ok (.pointer (some ⟨w.heap.size,0,none⟩)) (w.alloc (.cells #[.int .u64 0, .int .u64 0, .int .u64 0, .int .u64 0, .int .u64 0] 144)):=qr
def acG (e:o.op= .alloc 144)(b:o.dst=some d)
 (h:K (a.put (some d) (ptrTo w.heap.size)) (w.alloc (.cells #[.int .u64 0, .int .u64 0, .int .u64 0, .int .u64 0, .int .u64 0] 144))):o.wp prog a w K Q:=by
 unfold Oper.wp execOp;simp only[e,tL,vy,rU,E7];show K (a.put o.dst _) _;rw[b];exact h
def Rp (C:o.op= .store 144 (.tmp p) (.tmp q))(m:o.dst=none)
 (I:a.tmps.getD p undef=ptrTo k) (s:NV w k u) (J:mJ v (a.tmps.getD q undef)) (h:∀w',w.grownBy w' (some k)->NV w' k v->K a w'):o.wp prog a w K Q:=by
 obtain ⟨l,z,ok,R⟩:=J;obtain ⟨l0,g,a1,_⟩:=s;have b:=ok.length;have e:=a1.length;refine wp_store_mid 144 _ _ C k 0 (l.map dV).toArray I z (ab.there g _ (by simp[b,e])) (by rw[Pc];simp[b]) (all_oneCell_toArray (by intro x U;obtain ⟨n,_,rfl⟩:=eS.1 U;rfl)) ?_;rw[m];refine h _ (qm k _ _ _ _ (ak w _)) ⟨l,?_,ok,R⟩;exact x' g (by rw[b,e])
def Rq (s:o.op= .load 144 (.tmp p))(g:o.dst=some d)
 (z:a.tmps.getD p undef=ptrTo k) (m:NV w k v) (h:∀x,mJ v x->K (a.put (some d) x) w):o.wp prog a w K Q:=by
 obtain ⟨l,e,ok,C⟩:=m;have b:=ok.length;refine wp_load_mid 144 _ s k 0 z (l.map dV) _ (ab.range e) E6 rfl (by rw[Pc];simp[b]) ?_;rw[g];exact h _ ⟨l,rfl,ok,C⟩
def acI (g:o.op= .build 144 #[])(b:o.dst=some d)
 (h:∀x,mJ 0 x->K (a.put (some d) x) w):o.wp prog a w K Q:=by
 have e:∀w,(Instr.build 144 #[]).run prog w= .ok (N5 [0,0,0,0,0]) w:=λw=>by kernel_rfl
 unfold Oper.wp execOp;simp only[g,Array.map_empty,tL,vy,rU,e];show K (a.put o.dst _) _;rw[b];exact h _ ⟨[0,0,0,0,0],rfl,⟨0,[0,0,0,0],rfl,rfl,pm,pu⟩,wl⟩
def xD(f:Nat)(x y v:Nat):Prop:=∀(w:World) (p q:Value),mJ x p->mJ y q->Calls prog f #[p,q] w λe w'=>∃z,e= .returned z/\mJ v z/\w.grownBy w' none
def Fl(f:Nat)(v:Nat):Prop:=∀(w:World),Calls prog f #[] w λe w'=>∃z,e= .returned z/\mJ v z/\w.grownBy w' none
def acK {x:Nat}{ts:Array TypeId}(g:xD f x y v)
 (I:(execOp a.eval o).run prog w= .ok (.enter f #[a.tmps.getD p undef,a.tmps.getD q undef]) w) (b:o.dst=some d)
 (s:mJ x (a.tmps.getD p undef)) (C:mJ y (a.tmps.getD q undef)) (h:∀z w',mJ v z->w.grownBy w' none->K (a.put (some d) z) w'):o.wp prog a w K Q:=by
 unfold Oper.wp;rw[I,Oper.upon_enter];refine (g w _ _ s C).mono ?_;rintro e w' ⟨z,rfl,J,m⟩;show K (a.put o.dst _) _;rw[b];exact h z w' J m
def acJ (g:Fl f v)
 (s:(execOp a.eval o).run prog w= .ok (.enter f #[]) w) (b:o.dst=some d) (h:∀z w',mJ v z->w.grownBy w' none->K (a.put (some d) z) w'):o.wp prog a w K Q:=by
 unfold Oper.wp;rw[s,Oper.upon_enter];refine (g w).mono ?_;rintro e w' ⟨z,rfl,x,m⟩;show K (a.put o.dst _) _;rw[b];exact h z w' x m
def acF (e:ops[i]?=some o)(b:o.guard=none)(h:o.wp P a w K Q):wpOp P ops Q i K a w:=by unfold wpOp;simp only[e];rw[av (by unfold Region.wanted;rw[b])];exact Or.inl h
def fh(a:Act):Ln->Lv->Act
 |s::r,v::b=>fh (a.put (some s) v) r b
 |_,_=>a
def IU:∀(W:Ln) (a0 a:Act),a.tmps.size=a0.tmps.size->a.defers=a0.defers->(∀s,s∉W->a.tmps[s]?=a0.tmps[s]?)->∃z,z.length=W.length/\a=fh a0 W z
 |[],a0,a,b,g,m=>⟨[],rfl,by
  cases a;cases a0;simp only at b g m;subst g;have:∀(x y:Array Value),(∀s:Nat,x[s]?=y[s]?)->x=y:=λx y h=>yV h
  rw[this _ _ (λs=>m s pu)];rfl⟩
 |s::W,a0,a,b,g,m=>by
  obtain ⟨z,J,e⟩:=IU W (a0.put (some s) (a.tmps.getD s undef)) a (by simp[Act.put,b]) (by simp[Act.put,g]) (λt R=>by
   by_cases C:s=t
   ·subst C;by_cases I:s<a0.tmps.size
    ·simp[Act.put,I,b]
    simp[Act.put,tC (show a.tmps.size<=s by omega),I]
   rw[Hh _ _ _ _ C];exact m t (by simp[R];exact λe=>C e.symm))
  exact ⟨a.tmps.getD s undef::z,by simp[J],e⟩
def Pj {ks:List Kd}(a5:ks.length=ops.size)(hk:rE W a0.tmps.size ks=true)(z:sm wb w0 a0 W D ks)
 (hf:∀(i:Nat) (o:Oper) (k:Kd),ops[i]?=some o->ks[i]?=some k->Fits prog 144 ops Q wb w0 a0 W D ks i o k)
 (L:Nat->Bool) (i:Nat) (o:Oper) a w (s:ops[i]?=some o) (a1:L i=false) (b:∀e∈o.after,Region.binds .any e=true->L e.on=true) (I:iH wb w0 a0 W D ops ks L a w):
 o.wp prog a w (iH wb w0 a0 W D ops ks λj=>j==i||L j) Q:=by
 have hi:i<ks.length:=by rw[a5];exact (ot.1 s).1
 have g:ks[i]?=some ks[i]:=by simp[hi]
 have F:=hf i o ks[i] s g;generalize ks[i]=k at*;cases k with
 |val d v=>exact F L a w _ I a1 b λx C hx a4=>I.aaP hk z s b g hx a4
 |iv d=>exact acG F.1 F.2 (I.aaM hk z s b a1 g (aT _ _ _) (acW _))
 |gZ m p v=>obtain ⟨q,n,J,R,U,h4,w1,C⟩:=F;have a2:L n=true:=yL w1 b;have a3:L m=true:=yL C b;obtain ⟨k,u,c1,c2,c3⟩:=I.iv m p h4 a3;exact Rp J R c1 c3 (I.val n q v U a2) λC g2 n2=>I.aaO hk z s b a1 g h4 a3 c1 c2 g2 n2
 |aN p B u v=>
  obtain ⟨q,n,J,R,U,w1⟩:=F;have a2:L n=true:=yL w1 b;obtain ⟨b1,b2,b3,b4,b5⟩:=z.Iq i p B u v g;have hp:a.tmps.getD p undef=ptrTo B:=by rw[<-b5];have:=I.same p b4;simp only[wT,this]
  exact Rp J R hp (I.aN i p B u v g) (I.val n q v U a2) λC g2 n2=>I.aaN z s b g g2 n2
def qU(wb w0:World)(a0:Act)(W D:Ln)(ops:Array Oper)(ks:List Kd)(a:Act)(w:World):Prop:=iH wb w0 a0 W D ops ks (λ_=>true) a w
def Pd {ks:List Kd}(J:ks.length=ops.size)(C:∀i,i<ops.size->L i=true)(I:iH wb w0 a0 W D ops ks L a w):
 ∃b,b.length=W.length/\a=fh a0 W b/\qU wb w0 a0 W D ops ks a w:=by
 obtain ⟨b,R,e⟩:=IU W a0 a I.size I.defs I.same;have lt:∀i x,ks[i]?=some x->L i=true:=λi x h=>C i (by rw[<-J];exact (mD.1 h).1);exact ⟨b,R,e,I.base,I.kept,I.size,I.defs,I.same,λ_ _ _ _ _ _ _=>rfl,λi d v h _=>I.val i d v h (lt i _ h),λi d h _=>I.iv i d h (lt i _ h),
  λi m p v h _=>⟨rfl,(I.gZ i m p v h (lt i _ h)).2⟩,λi p B u v h=>by have:=I.aN i p B u v h;rw[av (lt i _ h)]at this;simpa using this,
  λi j d z g s U _ _=>I.apart i j d z g s U (lt i _ g) (lt j _ s)⟩
def Ph {ks:List Kd}(b:wb.grownBy w none)(e:xC D w0 w)(g:∀(i p B u v:Nat),ks[i]?=some (.aN p B u v)->NV w B u):iH wb w0 a0 W D ops ks (λ_=>false) a0 w:=
 ⟨b,e,rfl,rfl,λ_ _=>rfl,λ_ _ _ h=>by simp at h,λ_ _ _ _ h=>by simp at h,λ_ _ _ h=>by simp at h,λ_ _ _ _ _ h=>by simp at h,λi p B u v h=>by simpa using g i p B u v h,λ_ _ _ _ _ _ _ h=>by simp at h⟩
def S8 {id:Nat} W D (ks:List Kd)(m:ks.length=ops.size)(hk:rE W a0.tmps.size ks=true)(ol:sm wb w a0 W D ks)(hm:prog.follows .mixedOrders=true)(U:qg .any ops=true)
 (hg:ops.all (λo=>o.guard.isNone)=true) (C:wb.grownBy w none) (b:∀(i p B u v:Nat),ks[i]?=some (.aN p B u v)->NV w B u)
 (hf:∀(i:Nat) (o:Oper) (k:Kd),ops[i]?=some o->ks[i]?=some k->Fits prog 144 ops Q wb w a0 W D ks i o k)
 (s:∀(g:Lv) (w':World),g.length=W.length->qU wb w a0 W D ops ks (fh a0 W g) w'->Q .normal (fh a0 W g) w'):(Code.region id ops true).wp prog Q a0 w:=by
 refine acH hm U (iH wb w a0 W D ops ks) ?_ ?_ (Ph (aM C) ⟨bm _,λ_ _ _=>rfl⟩ b)
 ·intro L i o a w' b z R I;exact acF b (by have:=Bj.1 hg o (Array.mem_of_getElem? b);simpa using this) (Pj m hk ol hf L i o a w' b z R I)
 intro L a w' x I;obtain ⟨g,hl,e,J⟩:=Pd m x I;subst e;exact s g w' hl J
def Pg {ops:Array Oper}{Q:Exit->Act->World->Prop}{wb w0}{a0:Act}{W D}{ks:List Kd}(J:ks.length=ops.size)(C:rE W a0.tmps.size ks=true)(U:sm wb w0 a0 W D ks)(s:qg .any ops=true)
 (z:ops.all (λo=>o.guard.isNone)=true)
 (x:∀(i:Nat) (o:Oper) (k:Kd),ops[i]?=some o->ks[i]?=some k->Fits prog 144 ops Q wb w0 a0 W D ks i o k)
 (m:∀(L:Nat->Bool) (a:Act) (w':World),(∀i,i<ops.size->L i=true)->iH wb w0 a0 W D ops ks L a w'->Q .normal a w'):
 ∀(l:List Oper) (k:Nat),(∀j,l[j]?=ops[k+j]?)->k+l.length=ops.size->∀(a:Act) (w:World),iH wb w0 a0 W D ops ks (λj=>decide (j<k)) a w->wpList prog ops Q l a w
 |[],k,_,b,a,w,I=>m _ a w (λi hi=>by simp at b;simp;omega) I
 |o::l,k,R,b,a,w,I=>by
  have g:ops[k]?=some o:=by simpa using(R 0).symm
  refine BX (by have:=Bj.1 z o (Array.mem_of_getElem? g);simpa using this) λK hK=>?_;refine Oper.wp_mono (λa w h=>hK a w h) (Oper.wp_mono (λa w I'=>?_) (Pj J C U x (λj=>decide (j<k)) k o a w g pu (λe h1 h2=>by have:=MK s g e h1 h2;simpa using this) I));refine Pg J C U s z x m l (k+1) (λj=>by have:=R (j+1);simpa[nC,ze 1 j]using this) (by simp at b;omega) a w ?_;have e:(λj=>decide (j<k+1))=(λj=>j==k||decide (j<k)):=by
   funext j;by_cases h:j=k
   ·subst h;simp
   have:(j==k)=false:=by simpa using h
   rw[this,jX];congr 1;exact propext ⟨λq=>pm,λq=>pm⟩
  rw[e];exact I'
def M' {l:List Oper}{id:Nat} W D (ks:List Kd)(g:ks.length=l.toArray.size)(U:rE W a0.tmps.size ks=true)(ol:sm wb w a0 W D ks)(C:qg .any l.toArray=true)
 (R:l.toArray.all (λo=>o.guard.isNone)=true) (x:wb.grownBy w none) (ho:∀(i p B u v:Nat),ks[i]?=some (.aN p B u v)->NV w B u)
 (J:∀(i:Nat) (o:Oper) (k:Kd),l.toArray[i]?=some o->ks[i]?=some k->Fits prog 144 l.toArray Q wb w a0 W D ks i o k)
 (m:∀(b:Lv) (w':World),b.length=W.length->qU wb w a0 W D l.toArray ks (fh a0 W b) w'->Q .normal (fh a0 W b) w'):(Code.region id l.toArray false).wp prog Q a0 w:=by
 refine oB ?_;refine Pg g U ol C R J ?_ l 0 (λj=>pu) pu a0 w ?_
 ·intro L a w' s I;obtain ⟨b,hl,e,z⟩:=Pd g s I;subst e;exact m b w' hl z
 have e:(λj=>decide (j<0))=(λ_:Nat=>false):=by funext j;simp
 rw[e];exact Ph x ⟨bm _,λ_ _ _=>rfl⟩ ho
section
variable{ops:Array Oper}{Q:Exit->Act->World->Prop}{wb w0:World}{a0:Act}{W D:Ln}{ks:List Kd}{i:Nat}{o:Oper}{d v:Nat}
def Hi (h:a.tmps[p]?=a0.tmps[p]?):a.tmps.getD p undef=a0.tmps.getD p undef:=by simp only[wT,h]
def XD (p B:Nat)(z:NV w0 B v)(m:o.op= .load 144 (.tmp p))(g:o.dst=some d)(s:p∉W)(h0:a0.tmps.getD p undef=ptrTo B)(b:B∉D):Fits prog 144 ops Q wb w0 a0 W D ks i o (.val d v):=by intro L a w K I J R e;exact Rq m g (by rw[Hi (I.same p s)];exact h0) (z.keptBut I.kept b) λx C=>e x w C (ak _ _)
def XE (p B n p' g:Nat)(b:Oper)(J:ks[n]?=some (.aN p' B v g))(U:ops[n]?=some b)(hw:waits b i=true)(R:o.op= .load 144 (.tmp p))(C:o.dst=some d)(hp:p∉W)(h0:a0.tmps.getD p undef=ptrTo B):Fits prog 144 ops Q wb w0 a0 W D ks i o (.val d v):=by
 intro L a w K I s a1 m;have z:L n=false:=by
  rcases hb:L n with _|_
  ·rfl
  have:=yL hw (I.closed n b U hb);rw[s]at this;cases this
 have e:=I.aN n p' B v g J;rw[z]at e;exact Rq R C (by rw[Hi (I.same p hp)];exact h0) (by simpa using e) λx hx=>m x w hx (ak _ _)
def XG (f b e g m x y:Nat)(R:xD f x y v)(C:∀(x y:Value) (w:World),(callFunc f #[x,y]).run prog w= .ok (.enter f #[x,y]) w)(a1:Array TypeId)
 (U:o.op= .call {callee:= .value (.func f),args:=#[.tmp b, .tmp e],argTypes:=a1}) (J:o.dst=some d) (k1:ks[g]?=some (.val b x)) (k2:ks[m]?=some (.val e y)) (w1:waits o g=true) (w2:waits o m=true):
 Fits prog 144 ops Q wb w0 a0 W D ks i o (.val d v):=by
 intro L a w K I a2 s z;refine acK (p:=b) (q:=e) (ts:=#[]) R ?_ J (I.val g b x k1 (yL w1 s)) (I.val m e y k2 (yL w2 s)) z;unfold execOp;simp only[U,resolve,Deferred.ofValue,Act.eval,yW,oC,tO,tL,vy,rU,invoke];exact C _ _ _
def XF (f:Nat)(m:Fl f v)(e:∀(w:World),(callFunc f #[]).run prog w= .ok (.enter f #[]) w)(x:Array TypeId)
 (s:o.op= .call {callee:= .value (.func f),args:=#[],argTypes:=x}) (g:o.dst=some d):Fits prog 144 ops Q wb w0 a0 W D ks i o (.val d v):=by
 intro L a w K I z C b;refine acJ m ?_ g b;unfold execOp;simp only[s,resolve,Deferred.ofValue,Act.eval,yW,tO,tL,vy,rU,invoke];exact e _
def XC (g:o.op= .build 144 #[])(e:o.dst=some d):Fits prog 144 ops Q wb w0 a0 W D ks i o (.val d 0):=by intro L a w K I s z b;exact acI g e λx m=>b x w m (ak _ _)
end
end
section
open Go.RowKit
def G9:Kd->Option (Nat×Nat×Nat×Nat)
 | .aN p B u v=>some (p,B,u,v)
 |_=>none
section
variable{P:Program}{T:TypeId}{ops:Array Oper}{Q:Exit->Act->World->Prop}{wb w0:World}{a0:Act}{W D:Ln}{ks:List Kd}
end
def XJ:prog.follows .mixedOrders=true:=qr
def PR:∀(W:Ln) (b:Lv) (a:Act) (s:Nat),s∉W->(fh a W b).tmps.getD s undef=a.tmps.getD s undef
 |[],_,_,_,_=>rfl
 |_::_,[],_,_,_=>rfl
 |t::W,v::b,a,s,h=>by rw[fh,PR W b _ s (λe=>h (by simp[e])),nO _ _ _ _ (λe=>h (by simp[e]))]
def PN:∀(W:Ln) (b:Lv) (a:Act) (j s:Nat),W.Nodup->W[j]?=some s->b.length=W.length->s<a.tmps.size->(fh a W b).tmps.getD s undef=b.getD j undef
 |[],_,_,_,_,_,h,_,_=>by simp at h
 |_::_,[],_,_,_,_,_,h,_=>by simp at h
 |t::W,v::b,a,0,s,e,h,m,g=>by
  obtain rfl:t=s:=by simpa using h
  rw[fh,PR W b _ t (xm.1 e).1,zW _ _ _ g];rfl
 |t::W,v::b,a,j+1,s,e,h,m,g=>by rw[fh,PN W b _ j s (xm.1 e).2 (by simpa using h) (by simpa using m) (by simpa[Act.put]using g)];rfl
section
variable{wb w0:World}{a0:Act}{W D:Ln}{ops:Array Oper}{ks:List Kd}{a:Act}{w:World}
def qU.new (h:qU wb w0 a0 W D ops ks a w)(i m p v:Nat)(b:ks[i]?=some (.gZ m p v)):∃k,a.tmps.getD p undef=ptrTo k/\w0.heap.size<=k/\NV w k v:=(h.gZ i m p v b rfl).2.2
def qU.was (h:qU wb w0 a0 W D ops ks a w)(i p B u v:Nat)(b:ks[i]?=some (.aN p B u v)):NV w B v:=by simpa using h.aN i p B u v b
def qU.qq (h:qU wb w0 a0 W D ops ks a w)(e:NV w0 B v)(b:B∉D):NV w B v:=e.keptBut h.kept b
end
end
section
open Go.RowKit
def Xe (x y c:Nat)(b:c<=1)(w:World):(callFunc 142 #[.int .u64 x, .int .u64 y, .int .u64 c]).run prog w=
 .ok (.value (.tuple #[.int .u64 ((x+y+c)%18446744073709551616:Nat), .int .u64 ((x+y+c)/18446744073709551616:Nat)])) w:=by
 rw[EV func142 qr qr qr (e:=add64Entry) qr,run_add64 x y c pm pm pm pm];simp only[Result.andThen];congr 5<;>omega
def GN (x y c:Nat)(b:c<=1)(e:x<18446744073709551616)(g:y<18446744073709551616):∃s d:Nat,s+18446744073709551616*d=x+y+c/\s<18446744073709551616/\d<=1/\
 ∀w:World,(callFunc 142 #[.int .u64 x, .int .u64 y, .int .u64 c]).run prog w= .ok (.value (.tuple #[.int .u64 s, .int .u64 d])) w:=
 ⟨_,_,pm,dQ _ pm,pm,λw=>Xe x y c b w⟩
def Xf (x y:Nat)(b:x<18446744073709551616)(g:y<18446744073709551616):∃h l:Nat,l+18446744073709551616*h=x*y/\h<18446744073709551616/\l<18446744073709551616/\
 ∀w:World,Calls prog 147 #[.int .u64 x, .int .u64 y] w λe w'=>e= .returned (.tuple #[.int .u64 h, .int .u64 l])/\w'=w:=
 ⟨_,_,Nat.mod_add_div (x*y) 18446744073709551616,by rw[Nat.div_lt_iff_lt_mul pm];exact EK b g,dQ _ pm,λw=>Tryz.bits_Mul64 x y b g w⟩
def ma (a0 b e g m:Nat):N5 [a0,b,e,g,m]= .agg #[.int .u64 a0, .int .u64 b, .int .u64 e, .int .u64 g, .int .u64 m]:=rfl
def N0 a b:(kJ a b).length=min a.length b.length:=wZ
def PJ a b (i:Nat)(h:i<(kJ a b).length)(h1:i<a.length)(e:i<b.length):(kJ a b)[i]=a[i]+b[i]:=by simp[kJ]
def IN (X a:Ln)(i:Nat)(g:X.length=a.length)(b:i<a.length):(X.take i++a.drop i).set i (X[i]'(pm))=X.take (i+1)++a.drop (i+1):=by
 have e:a.drop i=a[i]::a.drop (i+1):=jV b;have lt:(X.take i).length=i:=by rw[aJ];omega
 rw[kp _ _ pm,lt,il,e,iD,fP pm,dM];rfl
def PG (X a:Ln)(i:Nat)(b:X.length=a.length)(e:i<a.length):(X.take i++a.drop i)[i]'(by rw[aK,aJ,aR];omega)=a[i]:=by
 have lt:(X.take i).length=i:=by rw[aJ];omega
 rw[uV pm,vh];congr 1;omega
def PH (X a:Ln)(i:Nat)(b:X.length=a.length)(e:i<=a.length):(X.take i++a.drop i).length=a.length:=by rw[aK,aJ,aR];omega
def VF w a b (ha:gR a)(hb:gR b):
 Calls prog 86 #[N5 a,N5 b] w (zk (aU a+aU b) w):=by
 obtain ⟨B,U⟩:=kq w.heap.size;obtain ⟨x,I⟩:=kq (((w.alloc (.cells (a.map dV).toArray 144)).alloc (.cells (b.map dV).toArray 144)).alloc (.cells #[.int .u64 0, .int .u64 0, .int .u64 0, .int .u64 0, .int .u64 0] 144));have s1:(w.alloc (.cells (a.map dV).toArray 144)).heap.size=B+1:=by rw[U];simp
 have s2:((w.alloc (.cells (a.map dV).toArray 144)).alloc (.cells (b.map dV).toArray 144)).heap.size=B+1+1:=by rw[U];simp
 have bA:NB x B a:=by rw[I,U];exact cG (cG (aO w _))
 have J:NB x (B+1) b:=by rw[I,<-s1];exact cG (aO _ _)
 have R:NB x (B+1+1) [0,0,0,0,0]:=by rw[I,<-s2];exact aO _ _
 have b1:w.grownBy x none:=by rw[I];exact aF (aF (aF (ak w none) _) _) _
 have la:=ha.length;have lb:=hb.length;have lX:(kJ a b).length=a.length:=by rw[N0,la,lb];rfl
 have a5:∀x∈kJ a b,x<=9223372036854775808:=by intro z hz;obtain ⟨i,hi,rfl⟩:=Bz hz;rw[PJ a b i hi pm pm];have h1:=ha.le _ (iE (show i<a.length by omega));have h2:=hb.le _ (iE (show i<b.length by omega));omega
 have b7:=PK a b pm;have HC:∀W:World,Calls prog 140 #[N5 (kJ a b)] W (Grown (N5 (fR (kJ a b))) W):=λW=>xS W _ pm a5;have b3:=xM (kJ a b) pm a5;have a6:=xN (kJ a b) pm;rw[b7]at a6;have a4:=Hq (And.intro b3 a6);have HA:=Hq bA;have b9:=Hq J;have HR:=Hq R;have HG:=Hq b1;have HB:=Hq U;have HX:=Hq I;have a1:=Hq la;have c1:=Hq lb;have m:=Hq lX;have b8:=Hq ha.le;have b':=Hq hb.le;clear b3 a6 b7 a5 bA J R b1 U I s1 s2 la lb lX ha hb;unfold N5;go_enter func86,ntmps86;go_wp2_with fail;rw[<-HB.out,<-HX.out];go_loopw [5,6] (λv5 vi wr=>∃i:Nat,i<=5/\vi= .int .i64 i/\Hid (NB wr B ((kJ a b).take i++a.drop i))/\Hid (x.grownBy wr (some B))) (λ_ vi _=>5-(intOf vi).toNat)
 case atStart=>exact ⟨0,pm,rfl,Hq (by rw[rW,kP,oA];exact HA.out),Hq (ak _ _)⟩
 case round=>
  clear HA HX;obtain ⟨i,hi,rfl,s,C⟩:=hrel;by_cases b2:i<5
  ·have g:i<a.length:=by rw[a1.out];exact b2
   have a3:i<b.length:=by rw[c1.out];exact b2
   have ca:=s.out.cell i (by rw[PH _ _ _ m.out pm];exact g);rw[PG _ _ _ m.out g]at ca;have fa:=s.out.frozen i;have J:NB wr (B+1) b:=ab.kept b9.out C.out pu;have cb:=J.cell i a3;have b4:=s.out.set i (a[i]+b[i]);have e:a[i]+b[i]=(kJ a b)[i]'(by rw[m.out];exact g):=(PJ a b i _ g a3).symm;have b6:NB (wr.setCell ⟨B,i,none⟩ (.int .u64 (a[i]+b[i]:Nat))) B ((kJ a b).take (i+1)++a.drop (i+1)):=by rw[<-IN _ _ _ m.out g,<-e];exact b4
   have a':=aw C.out i (.int .u64 (a[i]+b[i]:Nat));have k1:=b8.out a[i] (iE g);have k2:=b'.out b[i] (iE a3);generalize a[i]=p at*;generalize b[i]=q at*;have b5:NB (wr.setCell ⟨B,i,none⟩ (.int .u64 ((p:Int)+(q:Int)))) B ((kJ a b).take (i+1)++a.drop (i+1)):=by simpa using b6
   have b0:x.grownBy (wr.setCell ⟨B,i,none⟩ (.int .u64 ((p:Int)+(q:Int)))) (some B):=by simpa using a'
   have c4:=Hq b5;have c5:=Hq b0;have i0:(0:Int)<=(i:Int):=pm;have i1:(i:Int)<5:=pm;have w1:IntKind.u64.wrap ((p:Int)+(q:Int))=(p:Int)+(q:Int):=dE _ pm;clear b5 b0 b4 b6 a' e J s C g a3;go_wp2_with fail;go_still_tail 8,qr;change wpList _ _ _ _ _ wr.drew;go_wp2;go_roundw
   case rel=>exact ⟨i+1,pm,by go_num,c4,Hq (aM c5.out)⟩
   case measure=>simp[intOf];omega
  obtain rfl:i=5:=pm
  have a2:=s.out;rw[cE (by rw[m.out,a1.out];omega),iP (by rw[a1.out];omega),ev]at a2;obtain ⟨s0,s1,s2,s3,s4,h5⟩:=cX (m.out.trans a1.out);rw[h5]at a2 HC;obtain ⟨r0,r1,r2,r3,r4,h6⟩:=cX (a4.out.1.length);rw[<-h5,h6,h5,ma,ma]at HC;obtain ⟨⟨k0,k1,k2,k3,k4⟩,_⟩:=a2.cX;have R:NB wr (B+1+1) [0,0,0,0,0]:=ab.kept HR.out C.out pp;have c2:=Hq R;have c0:=Hq (cJ HG.out C.out (by have:=HB.out;omega));have c3:=Hq h6;have a8:=HC;clear h5 h6 a2 R s C HC;go_wp2_with fail;refine ax (a8 _) λw2 a7=>?_;have a9:NB w2 (B+1+1) [0,0,0,0,0]:=ab.kept c2.out a7 nofun
  obtain ⟨⟨z0,z1,z2,z3,z4⟩,f0,f1,f2,f3,f4⟩:=a9.cX;have c6:=Hq (vX (B:=B+1+1) (ai c0.out a7) (by have:=HB.out;omega) (.int .u64 r0) (.int .u64 r1) (.int .u64 r2) (.int .u64 r3) (.int .u64 r4));clear k0 k1 k2 k3 k4 a9 a7 a8;go_wp2_with fail;refine bodyPost_ret (v:= .agg #[.int .u64 r0, .int .u64 r1, .int .u64 r2, .int .u64 r3, .int .u64 r4]) (by simp[results,results86,go_sem,z0,z1,z2,z3,z4]) rfl ?_;exact ⟨fR (kJ a b),by rw[c3.out];rfl,a4.out.1,a4.out.2,c6.out⟩
def RJ(a b:Nat)(w:World)(e:Ending)(w':World):Prop:=∃l,e= .returned (N5 l)/\gR l/\(aU l+b)%PP=a%PP/\w.grownBy w' none
def b9 a b:(gV a b).length=5:=by simp[gV]
def OL a b (i:Nat)(h:i<(gV a b).length)(h1:i<a.length)(e:i<b.length):(gV a b)[i]=a[i]+9007199254740988-b[i]-(if i=0then 72 else 0):=by simp only[gV,yX,BE];rw[dh,aW h1,dh,aW e];rfl
def NB.drew (h:NB w B l):NB w.drew B l:=h
def VB w a b (ha:gR a)(hb:gR b):
 Calls prog 163 #[N5 a,N5 b] w (RJ (aU a) (aU b) w):=by
 obtain ⟨B,hB⟩:=kq w.heap.size;obtain ⟨x,J⟩:=kq (((w.alloc (.cells (a.map dV).toArray 144)).alloc (.cells (b.map dV).toArray 144)).alloc (.cells #[.int .u64 0, .int .u64 0, .int .u64 0, .int .u64 0, .int .u64 0] 144));have s1:(w.alloc (.cells (a.map dV).toArray 144)).heap.size=B+1:=by rw[hB];simp
 have s2:((w.alloc (.cells (a.map dV).toArray 144)).alloc (.cells (b.map dV).toArray 144)).heap.size=B+1+1:=by rw[hB];simp
 have bA:NB x B a:=by rw[J,hB];exact cG (cG (aO w _))
 have R:NB x (B+1) b:=by rw[J,<-s1];exact cG (aO _ _)
 have U:NB x (B+1+1) [0,0,0,0,0]:=by rw[J,<-s2];exact aO _ _
 have c4:w.grownBy x none:=by rw[J];exact aF (aF (aF (ak w none) _) _) _
 have la:=ha.length;have lb:=hb.length;have lX:(gV a b).length=a.length:=by rw[b9,la]
 have a9:∀x∈gV a b,x<=9223372036854775808:=by intro z hz;obtain ⟨i,hi,rfl⟩:=Bz hz;rw[OL a b i hi pm pm];have h1:=ha.le _ (iE (show i<a.length by omega));omega
 have c8:aU (gV a b)+aU b=aU a+4*PP:=by obtain ⟨a0,a1,a2,a3,a4,rfl⟩:=cX la;obtain ⟨b0,b1,b2,b3,b4,rfl⟩:=cX lb;have I:=hb.le;simp only[bp,dD,dH,forall_eq_or_imp,forall_eq]at I;exact j2 a0 a1 a2 a3 a4 b0 b1 b2 b3 b4 I.1 I.2.1 I.2.2.1 I.2.2.2.1 I.2.2.2.2
 have HC:∀W:World,Calls prog 140 #[N5 (gV a b)] W (Grown (N5 (fR (gV a b))) W):=λW=>xS W _ pm a9;have c6:=xM (gV a b) pm a9;have c2:(aU (fR (gV a b))+aU b)%PP=aU a%PP:=by
  have h1:=xN (gV a b) pm;have e1:(aU (fR (gV a b))+aU b)%PP=(aU (gV a b)+aU b)%PP:=by rw[tQ,h1,<-tQ]
  rw[e1,c8,jH 4,wU]
 have a8:=Hq (And.intro c6 c2);have HA:=Hq bA;have c':=Hq R;have HR:=Hq U;have HG:=Hq c4;have HB:=Hq hB;have HX:=Hq J;have a5:=Hq la;have d2:=Hq lb;have m:=Hq lX;have c9:=Hq ha.le;have d0:=Hq hb.le;clear c6 c2 c8 a9 bA R U c4 hB J s1 s2 la lb lX ha hb;unfold N5;go_enter func163,ntmps163;go_wp2_with fail;rw[<-HB.out,<-HX.out];go_loopw [5,6] (λv5 vi wr=>∃i:Nat,i<=5/\vi= .int .i64 i/\Hid (NB wr B ((gV a b).take i++a.drop i))/\Hid (x.grownBy wr (some B))) (λ_ vi _=>5-(intOf vi).toNat)
 case atStart=>exact ⟨0,pm,rfl,Hq (by rw[rW,kP,oA];exact HA.out),Hq (ak _ _)⟩
 case round=>
  clear HA HX;obtain ⟨i,hi,rfl,s,C⟩:=hrel;by_cases c5:i<5
  ·have g:i<a.length:=by rw[a5.out];exact c5
   have a7:i<b.length:=by rw[d2.out];exact c5
   have ca:=s.out.cell i (by rw[PH _ _ _ m.out pm];exact g);rw[PG _ _ _ m.out g]at ca;have fa:=s.out.frozen i;have R:NB wr (B+1) b:=ab.kept c'.out C.out pu;have cb:=R.cell i a7;have k1:=c9.out a[i] (iE g);have k2:=d0.out b[i] (iE a7);have e:=OL a b i (by rw[m.out];exact g) g a7;have c7:=s.out.set i ((gV a b)[i]'(by rw[m.out];exact g));have b6:NB (wr.setCell ⟨B,i,none⟩ (.int .u64 ((gV a b)[i]'(by rw[m.out];exact g):Nat))) B ((gV a b).take (i+1)++a.drop (i+1)):=by rw[<-IN _ _ _ m.out g];exact c7
   have b7:=(s.out.set i (a[i]+9007199254740988-b[i])).set i ((gV a b)[i]'(by rw[m.out];exact g));have b8:NB ((wr.setCell ⟨B,i,none⟩ (.int .u64 (a[i]+9007199254740988-b[i]:Nat))).setCell ⟨B,i,none⟩ (.int .u64 ((gV a b)[i]'(by rw[m.out];exact g):Nat))) B ((gV a b).take (i+1)++a.drop (i+1)):=by rw[BZ]at b7;rw[<-IN _ _ _ m.out g];exact b7
   have c3:=λv:Value=>aw C.out i v;rw[e]at b6 b8;clear c7 b7 e;generalize a[i]=p at*;generalize b[i]=q at*;have d5:=Hq b6;have d6:=Hq b8;have c0:=Hq c3;have i0:(0:Int)<=(i:Int):=pm;have i1:(i:Int)<5:=pm;have q9:(q:Int)<=9007199254740988:=pm;have w0:IntKind.u64.wrap (9007199254740988-(q:Int))=9007199254740988-(q:Int):=dE _ pm;have w1:IntKind.u64.wrap ((p:Int)+(9007199254740988-(q:Int)))=(p:Int)+(9007199254740988-(q:Int)):=dE _ pm;clear b6 b8 c3 R s C g a7;by_cases b5:i=0
   ·subst b5;have e0:((0:Nat):Int)=0:=rfl;rw[e0]at*;go_wp2_with fail;go_still_tail 9,qr;change wpList _ _ _ _ _ wr.drew;go_wp2;go_roundw
    case rel=>have v1:(p:Int)+(9007199254740988-(q:Int))=((p+9007199254740988-q:Nat):Int):=pm;have v2:(p:Int)+(9007199254740988-(q:Int))-72=((p+9007199254740988-q-72:Nat):Int):=pm;rw[v2,v1];have h4:=d6.out;rw[av trivial,ef]at h4;exact ⟨1,pm,rfl,Hq (NB.drew h4),Hq (aM (aw (c0.out _) 0 _))⟩
    case measure=>simp[intOf]
   have q0:((i:Int)==0)=false:=pp;have d8:Hid ((if i=0then 72 else 0)=0):=Hq (au b5);clear b5;go_wp2_with fail;go_still_tail 9,qr;change wpList _ _ _ _ _ wr.drew;go_wp2;go_roundw
   case rel=>have v1:(p:Int)+(9007199254740988-(q:Int))=((p+9007199254740988-q:Nat):Int):=pm;rw[v1];have h1:=d5.out;rw[d8.out,Nat.sub_zero]at h1;exact ⟨i+1,pm,by go_num,Hq (NB.drew h1),Hq (aM (c0.out _))⟩
   case measure=>simp[intOf];omega
  obtain rfl:i=5:=pm
  have a6:=s.out;rw[cE (by rw[m.out,a5.out];omega),iP (by rw[a5.out];omega),ev]at a6;obtain ⟨s0,s1,s2,s3,s4,h5⟩:=cX (m.out.trans a5.out);rw[h5]at a6 HC;obtain ⟨r0,r1,r2,r3,r4,h6⟩:=cX (a8.out.1.length);rw[<-h5,h6,h5,ma,ma]at HC;obtain ⟨⟨k0,k1,k2,k3,k4⟩,_⟩:=a6.cX;have U:NB wr (B+1+1) [0,0,0,0,0]:=ab.kept HR.out C.out pp;have d3:=Hq U;have d1:=Hq (cJ HG.out C.out (by have:=HB.out;omega));have d4:=Hq h6;have b':=HC;clear h5 h6 a6 U s C HC;go_wp2_with fail;refine ax (b' _) λw2 a'=>?_;have c1:NB w2 (B+1+1) [0,0,0,0,0]:=ab.kept d3.out a' nofun
  obtain ⟨⟨z0,z1,z2,z3,z4⟩,f0,f1,f2,f3,f4⟩:=c1.cX;have d7:=Hq (vX (B:=B+1+1) (ai d1.out a') (by have:=HB.out;omega) (.int .u64 r0) (.int .u64 r1) (.int .u64 r2) (.int .u64 r3) (.int .u64 r4));clear k0 k1 k2 k3 k4 c1 a' b';go_wp2_with fail;refine bodyPost_ret (v:= .agg #[.int .u64 r0, .int .u64 r1, .int .u64 r2, .int .u64 r3, .int .u64 r4]) (by simp[results,results163,go_sem,z0,z1,z2,z3,z4]) rfl ?_;exact ⟨fR (gV a b),by rw[d4.out];rfl,a8.out.1,a8.out.2,d7.out⟩
def eH(n:Nat):Nat:=n/18446744073709551616
def fC(n:Nat):Nat:=n%18446744073709551616
def W2(n:Nat):Value:= .agg #[.int .u64 (eH n:Nat), .int .u64 (fC n:Nat)]
def VL w (n x y:Nat)(U:x<18446744073709551616)(hy:y<18446744073709551616)(g:n+x*y<340282366920938463463374607431768211456):
 Calls prog 141 #[W2 n, .int .u64 x, .int .u64 y] w (Grown (W2 (n+x*y)) w):=by
 obtain ⟨h,l,z,lh,ll,M⟩:=Xf x y U hy;obtain ⟨s,d,J,ls,ld,I⟩:=GN (fC n) l 0 pm (dQ _ pm) ll;have a1:eH n<18446744073709551616:=by unfold eH;omega
 obtain ⟨t,d2,R,lt,a2,E2⟩:=GN (eH n) h d ld a1 lh;have b:W2 (n+x*y)= .agg #[.int .u64 t, .int .u64 s]:=by
  have m:fC (n+x*y)=s/\eH (n+x*y)=t:=by unfold fC eH at*;rw[<-z]at g⊢;omega
  unfold W2;rw[m.1,m.2]
 rw[b];unfold W2;have lw:fC n<18446744073709551616:=dQ _ pm;clear b z J R g;generalize eH n=nh at*;generalize fC n=nl at*;have C:((0:Nat):Int)=0:=rfl;rw[C]at I;clear C;go_enter func141,ntmps141;go_wp2_with fail;refine (M _).mono ?_;rintro e w2 ⟨rfl,rfl⟩;go_wp2_with fail;refine bodyPost_ret (v:= .agg #[.int .u64 t, .int .u64 s]) (by simp[results,results141,go_sem]) rfl ?_;exact ⟨rfl,aF (aF (ak w none) _) _⟩
def uR(W:Ln):Lv:=W.flatMap λn=>[.int .u64 (eH n:Nat), .int .u64 (fC n:Nat)]
def kR(w:World)(B:Nat)(W:Ln):Prop:=ab w B 214 (uR W)
def Rf:∀(W:Ln) (i:Nat) (h:i<W.length),(uR W)[2*i]?=some (.int .u64 (eH W[i]:Nat))/\(uR W)[2*i+1]?=some (.int .u64 (fC W[i]:Nat))
 |n::W,0,_=>⟨rfl,rfl⟩
 |n::W,i+1,h=>by
  have e:=Rf W i (by simpa using h);have b:2*(i+1)=(2*i)+1+1:=pm
  rw[b];exact e
def Ri:∀(W:Ln) (i n:Nat),i<W.length->((uR W).set (2*i) (.int .u64 (eH n:Nat))).set (2*i+1) (.int .u64 (fC n:Nat))=uR (W.set i n)
 |m::W,0,n,_=>rfl
 |m::W,i+1,n,h=>by
  have e:=Ri W i n (by simpa using h);have b:2*(i+1)=(2*i)+1+1:=pm
  rw[b];show _::_::((uR W).set (2*i) _).set (2*i+1) _=_::_::uR (W.set i n);rw[e]
def kR.cell (h:kR w B W)(i:Nat)(b:i<W.length):w.cell? ⟨B,2*i,none⟩=some (.int .u64 (eH W[i]:Nat))/\w.cell? ⟨B,2*i+1,none⟩=some (.int .u64 (fC W[i]:Nat)):=by rw[ab.cell h,ab.cell h];exact Rf W i b
def kR.set (h:kR w B W)(i n:Nat)(b:i<W.length):kR ((w.setCell ⟨B,2*i,none⟩ (.int .u64 (eH n:Nat))).setCell ⟨B,2*i+1,none⟩ (.int .u64 (fC n:Nat))) B (W.set i n):=by have:=(ab.set h (2*i) (.int .u64 (eH n:Nat))).set (2*i+1) (.int .u64 (fC n:Nat));rw[Ri W i n b]at this;exact this
def Yr (w:World)(a0 b e g m:Int):(Instr.index 144 (.agg #[.int .u64 a0, .int .u64 b, .int .u64 e, .int .u64 g, .int .u64 m]) (.int .i64 0)).run prog w= .ok (.int .u64 a0) w:=qr
def Ys (w:World)(a0 b e g m:Int):(Instr.index 144 (.agg #[.int .u64 a0, .int .u64 b, .int .u64 e, .int .u64 g, .int .u64 m]) (.int .i64 1)).run prog w= .ok (.int .u64 b) w:=qr
def Yt (w:World)(a0 e b g m:Int):(Instr.index 144 (.agg #[.int .u64 a0, .int .u64 e, .int .u64 b, .int .u64 g, .int .u64 m]) (.int .i64 2)).run prog w= .ok (.int .u64 b) w:=qr
def Yu (w:World)(a0 e g b m:Int):(Instr.index 144 (.agg #[.int .u64 a0, .int .u64 e, .int .u64 g, .int .u64 b, .int .u64 m]) (.int .i64 3)).run prog w= .ok (.int .u64 b) w:=qr
def Yv (w:World)(a0 e g m b:Int):(Instr.index 144 (.agg #[.int .u64 a0, .int .u64 e, .int .u64 g, .int .u64 m, .int .u64 b]) (.int .i64 4)).run prog w= .ok (.int .u64 b) w:=qr
def YF (w:World)(a0 b e x g z m C s I:Int):(Instr.index 214 (.agg #[.int .u64 a0, .int .u64 b, .int .u64 e, .int .u64 x, .int .u64 g, .int .u64 z, .int .u64 m, .int .u64 C, .int .u64 s, .int .u64 I]) (.int .i64 0)).run prog w= .ok (.agg #[.int .u64 a0, .int .u64 b]) w:=qr
def YG (w:World)(a0 x b e g z m C s I:Int):(Instr.index 214 (.agg #[.int .u64 a0, .int .u64 x, .int .u64 b, .int .u64 e, .int .u64 g, .int .u64 z, .int .u64 m, .int .u64 C, .int .u64 s, .int .u64 I]) (.int .i64 1)).run prog w= .ok (.agg #[.int .u64 b, .int .u64 e]) w:=qr
def YH (w:World)(a0 x g z b e m C s I:Int):(Instr.index 214 (.agg #[.int .u64 a0, .int .u64 x, .int .u64 g, .int .u64 z, .int .u64 b, .int .u64 e, .int .u64 m, .int .u64 C, .int .u64 s, .int .u64 I]) (.int .i64 2)).run prog w= .ok (.agg #[.int .u64 b, .int .u64 e]) w:=qr
def YI (w:World)(a0 x g z m C b e s I:Int):(Instr.index 214 (.agg #[.int .u64 a0, .int .u64 x, .int .u64 g, .int .u64 z, .int .u64 m, .int .u64 C, .int .u64 b, .int .u64 e, .int .u64 s, .int .u64 I]) (.int .i64 3)).run prog w= .ok (.agg #[.int .u64 b, .int .u64 e]) w:=qr
def YJ (w:World)(a0 x g z m C s I b e:Int):(Instr.index 214 (.agg #[.int .u64 a0, .int .u64 x, .int .u64 g, .int .u64 z, .int .u64 m, .int .u64 C, .int .u64 s, .int .u64 I, .int .u64 b, .int .u64 e]) (.int .i64 4)).run prog w= .ok (.agg #[.int .u64 b, .int .u64 e]) w:=qr
def Oc (w:World)(a0 b e g m:Nat)(k:Nat)(s:k<[a0,b,e,g,m].length):
 (Instr.index 144 (.agg #[.int .u64 a0, .int .u64 b, .int .u64 e, .int .u64 g, .int .u64 m]) (.int .i64 k)).run prog w= .ok (.int .u64 ([a0,b,e,g,m][k]:Nat)) w:=by
 match k,s with
 |0,_=>exact Yr w _ _ _ _ _
 |1,_=>exact Ys w _ _ _ _ _
 |2,_=>exact Yt w _ _ _ _ _
 |3,_=>exact Yu w _ _ _ _ _
 |4,_=>exact Yv w _ _ _ _ _
end
end Go.Proofs.YtmomfbkpniblgaaGreatDoor
