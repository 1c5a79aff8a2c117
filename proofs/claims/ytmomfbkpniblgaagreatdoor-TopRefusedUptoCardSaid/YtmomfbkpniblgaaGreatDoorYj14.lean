/- A part of this claim's proof. -/
import Derived.Test.YtmomfbkpniblgaaGreatDoorYj10
set_option linter.all false
set_option maxHeartbeats 2000000
set_option maxRecDepth 20000
namespace Go.Proofs.YtmomfbkpniblgaaGreatDoor
open Go.Proofs.Tryz
variable {l:Ln}
section
open Go.RowKit
def sI(l:Ln):Nat->Ln
 |0=>l
 |k+1=>rF k (4+k) (8+k) (12+k) (sI l k)
def vU(l:Ln):Nat->Ln
 |0=>l
 |k+1=>rF k (4+(k+1)%4) (8+(k+2)%4) (12+(k+3)%4) (vU l k)
def rI(l:Ln):Nat->Ln
 |0=>l
 |k+1=>vU (sI (rI l k) 4) 4
def px(l:Ln):Ln:=rI l 10
def zX (h:Small l)(i n:Nat)(a:n<4294967296):Small (l.set i n):=by
 intro j;have:=h j;rw[dh]at this⊢;rw[qN];by_cases e:i=j
 ·subst e;by_cases q:i<l.length
  ·simp[q,a]
  simp[q]
 simp only[e,oE];exact this
def PX (h:Small l)(a b c d:Nat):Small (rF a b c d l):=by
 have ok:Fm (po (l.getD a 0,l.getD b 0,l.getD c 0,l.getD d 0)):=by unfold po;exact PY _ _ _ (PY _ _ _ ⟨h a,h b,h c,h d⟩)
 unfold rF;generalize po (l.getD a 0,l.getD b 0,l.getD c 0,l.getD d 0)=q at*;obtain ⟨x,y,z,t⟩:=q;obtain ⟨e,f,g,i⟩:=ok;exact zX (zX (zX (zX h _ _ e) _ _ f) _ _ g) _ _ i
def PV (a b c d:Nat) l:(rF a b c d l).length=l.length:=by simp[rF]
def GF (h:Small l)(b:l.length=16)(k:Nat):Small (sI l k)/\(sI l k).length=16:=by
 induction k with
 |zero=>exact ⟨h,b⟩
 |succ k a=>exact ⟨PX a.1 _ _ _ _,by rw[sI,PV];exact a.2⟩
def Mw (h:Small l)(b:l.length=16)(k:Nat):Small (vU l k)/\(vU l k).length=16:=by
 induction k with
 |zero=>exact ⟨h,b⟩
 |succ k a=>exact ⟨PX a.1 _ _ _ _,by rw[vU,PV];exact a.2⟩
def wD (h:Small l)(b:l.length=16)(k:Nat):Small (rI l k)/\(rI l k).length=16:=by
 induction k with
 |zero=>exact ⟨h,b⟩
 |succ k a=>have c:=GF a.1 a.2 4;exact Mw c.1 c.2 4
def tB:Lv:=List.replicate 16 (.int .u32 0)
def sY:(prog.info? 335).map (·.size)=some 16:=qr
def JR (l:Ln):∀v∈l.map dg,v.oneCell'=true:=by intro v a;obtain ⟨n,_,rfl⟩:=eS.1 a;rfl
def Rh (l:Ln):(l.map dg).toArray.all (·.oneCell')=true:=by refine all_oneCell_toArray λv a=>?_;obtain ⟨n,_,rfl⟩:=eS.1 a;rfl
def Mk w (l:Ln)(s:l.length=16)(U:Small l):
 Calls prog 255 #[jU l] w λe w'=>e= .returned (jU (px l))/\w.grownBy w' none:=by
 have h:=wD U s;obtain ⟨B,j⟩:=kq w.heap.size;obtain ⟨x,g⟩:=kq ((w.alloc (.cells (l.map dg).toArray 335)).alloc (.cells tB.toArray 335));have C:WB x B l:=by rw[g,j];exact cG (aO w _)
 have d:ab x (B+1) 335 tB:=by have:=ab.new (w.alloc (.cells (l.map dg).toArray 335)) 335 tB;rw[show(w.alloc (.cells (l.map dg).toArray 335)).heap.size=B+1from by rw[j];simp]at this;rw[g];exact this
 have J:w.grownBy x none:=by rw[g];exact aF (aF (ak w none) _) _
 have a6:w.heap.size<=B:=pm
 have a4:=Hq g;have a0:=Hq j;have HL:=Hq s;have z:=Hq d;have HG:=Hq J;clear U g j s d J;unfold jU;go_enter func255,ntmps255;go_wp2_with fail;rw[<-a0.out];have m:=a4.out;unfold tB at m;simp only[List.replicate]at m;rw[<-m];clear m;have hu:=underlying335;go_loopw [7] (λt wr=>∃r:Nat,r<=10/\t= .int .i64 r/\WB wr B (rI l r)/\x.grownBy wr (some B)) (λt _=>10-(intOf t).toNat)
 case atStart=>exact ⟨0,pm,rfl,C,ak _ _⟩
 case round=>
  clear C hu;obtain ⟨r,hr,rfl,b,a⟩:=hrel;by_cases a9:r<10
  ·have hd:decide ((r:Int)<10)=true:=pp;have i:=Hq (h r);clear h;go_wp2_with fail;go_loopw [9] (λc wr=>∃k:Nat,k<=4/\c= .int .i64 k/\WB wr B (sI (rI l r) k)/\x.grownBy wr (some B)) (λc _=>4-(intOf c).toNat)
   case atStart=>exact ⟨0,pm,rfl,b,a⟩
   case round=>
    clear b a;obtain ⟨k,hk,rfl,b,a⟩:=hrel;by_cases a8:k<4
    ·have f:=GF i.out.1 i.out.2 k;go_wp2_with fail;refine (Mj _ B (sI (rI l r) k) k (4+k) (8+k) (12+k) b f.2 f.1 pm pm pm pm pm pm pm pm pm pm).mono ?_;rintro e w1 ⟨rfl,d,p⟩;go_wp2;go_roundw
     case rel=>exact ⟨k+1,pm,by go_num,d,ai a p⟩
     case measure=>simp[intOf];omega
    obtain rfl:k=4:=pm;rw[show Value.int .i64 (4:Nat)=Value.int .i64 4from rfl];have u:=Hq (GF i.out.1 i.out.2 4);go_wp2_with fail;go_loopw [22] (λc wr=>∃k:Nat,k<=4/\c= .int .i64 k/\WB wr B (vU (sI (rI l r) 4) k)/\x.grownBy wr (some B)) (λc _=>4-(intOf c).toNat)
    case atStart=>exact ⟨0,pm,rfl,b,a⟩
    case round=>
     clear b a;obtain ⟨k,hk,rfl,b,a⟩:=hrel;by_cases a8:k<4
     ·have f:=Mw u.out.1 u.out.2 k;go_wp2_with fail;refine (Mj _ B (vU (sI (rI l r) 4) k) k (4+(k+1)%4) (8+(k+2)%4) (12+(k+3)%4) b f.2 f.1 pm pm pm pm pm pm pm pm pm pm).mono ?_;rintro e w1 ⟨rfl,d,p⟩;go_wp2;go_roundw
      case rel=>exact ⟨k+1,pm,by go_num,d,ai a p⟩
      case measure=>simp[intOf];omega
     obtain rfl:k=4:=pm;go_wp2;go_roundw
     case rel=>exact ⟨r+1,pm,by go_num,b,a⟩
     case measure=>simp[intOf];omega
  obtain rfl:r=10:=pm
  have n:=(h 10).2;clear h;obtain ⟨L,o⟩:=kq (rI l 10);have a2:=Hq (show Value.agg ((px l).map dg).toArray= .agg (L.map dg).toArray from by rw[o];rfl);rw[<-o]at n b;clear o;have a5:ab wr B 335 ((L).map dg):=b;have I:=(z.out).kept a pu;have q:(prog.info? 335).map (·.size)=some ((L).map dg).length:=by rw[cY,n];exact sY
  have P:(prog.info? 335).map (·.size)=some ((L).map dg).toArray.size:=by rw[qM];exact q
  have R:wr.there (B+1) 0 ((L).map dg).toArray.size:=I.there _ (by simp[tB,n]);have y:=Hq q;have a1:=Hq P;have HT:=Hq R;have a3:=Hq a5.range;clear q P R I;go_upto_region 15with(fail);refine oB ?_;refine wpList_load_mid rfl 335 _ rfl B 0 rfl ((L).map dg) _ a3.out underlying335 rfl y.out ?_;refine wpList_store_mid rfl 335 _ _ rfl (B+1) 0 ((L).map dg).toArray rfl rfl HT.out a1.out (Rh _) ?_;refine oD ?_;have hW:=((z.out).kept a pu).store ((L).map dg) (by simpa[tB]using n);have a7:w.grownBy (wr.setCells (B+1) 0 ((L).map dg).toArray.toList) none:=uu (cJ HG.out a a6) (B+1) pm _ _;go_wp2_with fail;refine bodyPost_ret (v:= .agg ((L).map dg).toArray) (uJ results255 _ _ (B+1) rfl ((L).map dg) _ hW underlying335 rfl y.out) rfl ?_;exact ⟨by rw[a2.out],a7⟩
end
end Go.Proofs.YtmomfbkpniblgaaGreatDoor
