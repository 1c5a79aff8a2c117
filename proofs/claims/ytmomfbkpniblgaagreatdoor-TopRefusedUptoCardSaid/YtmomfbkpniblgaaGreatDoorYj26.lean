/- A part of this claim's proof. -/
import Derived.Test.YtmomfbkpniblgaaGreatDoorYj24
set_option linter.all false
set_option maxHeartbeats 4000000
set_option maxRecDepth 100000
namespace Go.Proofs.YtmomfbkpniblgaaGreatDoor
open Go.Proofs.Tryz
section
open Go.RowKit
def vZ(a:Nat):Lb:=[115,111,117,116,101,114,114,97,105,110,32]++[UInt8.ofNat (48+a)]
def iK(a:Nat):Lb:=cx a (vZ a)
def FH (a:Nat)(b:a=1\/a=2):(iK a).length=32:=oX _ _
def zj(w:World)(a:Nat)(d:Lb)(e:Ending)(c:World):Prop:=
 ∃b,e= .returned (.tuple #[.pointer (some ⟨b,0,none⟩), .int .i64 0])/\bj c b a (cx a (iK a++d)) (iK a) [] 0/\w.grownBy c none/\w.heap.size<=b
def VD w (a:Lb)(m:a.length<=9223372036854774000):Calls prog 267 #[.int .i64 1,S a] w (zj w 1 a):=by
 have f:=Gt;have q:(convert 83 9 (.slice (some ⟨w.heap.size,0,none⟩) 1 1)).run prog (w.alloc (.cells #[.int .u8 49] 5))= .ok (.string ⟨#[49]⟩) (w.alloc (.cells #[.int .u8 49] 5)):=uh w 49 49 rfl;have g:∀W:World,Calls prog 91 #[.int .i64 1,S (vZ 1)] W (Grown (.tuple #[S (iK 1), .int .i64 0]) W):=λW=>CV W 1 ut (vZ 1) ut;have lb:=FH 1 ut;have i:∀(W:World) (b:Nat),bj W b 1 (iK 1) (iK 1) [] 0->Calls prog 268 #[.pointer (some ⟨b,0,none⟩),S a] W (kx W b 1 (cx 1 (iK 1++a)) (iK 1) [] 0):=λW b h=>zN W b (iK 1) (iK 1) [] a 0 h pm m;unfold zj;generalize cx 1 (iK 1++a)=V at*;generalize iK 1=H at*;have k:vZ 1=[115,111,117,116,101,114,114,97,105,110,32,49]:=rfl;rw[k]at g;have r:ByteArray.mk #[115,111,117,116,101,114,114,97,105,110,32]++ByteArray.mk #[49]=⟨#[115,111,117,116,101,114,114,97,105,110,32,49]⟩:=rfl;have j:=λW:World=>i (W.alloc (.cells #[.iface 356 (.agg #[]),S H,S H,S [], .int .u64 0] 310)) W.heap.size (aO W _);rw[ie]at f;clear i m k lb;unfold S at*;go_enter func267,ntmps267;go_wp2_with fail;refine (f _).mono ?_;rintro e x ⟨rfl,rfl⟩;go_wp2_with fail;refine ax (g _) λx1 c=>?_;replace c:=ai (aT w (.cells #[.int .u8 49] 5) none) c;have d:=Hq c;clear c q;go_wp2_with fail;refine (j _).mono ?_;rintro e x2 ⟨rfl,n,l⟩;have p:=Hq n
 have o:=Hq (cJ (aF d.out _) l d.out.size);clear n l j;go_wp2;go_ret2;exact ⟨x1.heap.size,rfl,p.out,o.out,d.out.size⟩
def VE w (a:Lb)(m:a.length<=9223372036854774000):Calls prog 267 #[.int .i64 2,S a] w (zj w 2 a):=by
 have f:=Gu;have q:(convert 83 9 (.slice (some ⟨w.heap.size,0,none⟩) 1 1)).run prog (w.alloc (.cells #[.int .u8 50] 5))= .ok (.string ⟨#[50]⟩) (w.alloc (.cells #[.int .u8 50] 5)):=uh w 50 50 rfl;have g:∀W:World,Calls prog 91 #[.int .i64 2,S (vZ 2)] W (Grown (.tuple #[S (iK 2), .int .i64 0]) W):=λW=>CV W 2 ut (vZ 2) ut;have lb:=FH 2 ut;have i:∀(W:World) (b:Nat),bj W b 2 (iK 2) (iK 2) [] 0->Calls prog 268 #[.pointer (some ⟨b,0,none⟩),S a] W (kx W b 2 (cx 2 (iK 2++a)) (iK 2) [] 0):=λW b h=>zO W b (iK 2) (iK 2) [] a 0 h pm m;unfold zj;generalize cx 2 (iK 2++a)=V at*;generalize iK 2=H at*;have k:vZ 2=[115,111,117,116,101,114,114,97,105,110,32,50]:=rfl;rw[k]at g;have r:ByteArray.mk #[115,111,117,116,101,114,114,97,105,110,32]++ByteArray.mk #[50]=⟨#[115,111,117,116,101,114,114,97,105,110,32,50]⟩:=rfl;have j:=λW:World=>i (W.alloc (.cells #[.iface 357 (.agg #[]),S H,S H,S [], .int .u64 0] 310)) W.heap.size (aO W _);rw[ig]at f;clear i m k lb;unfold S at*;go_enter func267,ntmps267;go_wp2_with fail;refine (f _).mono ?_;rintro e x ⟨rfl,rfl⟩;go_wp2_with fail;refine ax (g _) λx1 c=>?_;replace c:=ai (aT w (.cells #[.int .u8 50] 5) none) c;have d:=Hq c;clear c q;go_wp2_with fail;refine (j _).mono ?_;rintro e x2 ⟨rfl,n,l⟩;have p:=Hq n
 have o:=Hq (cJ (aF d.out _) l d.out.size);clear n l j;go_wp2;go_ret2;exact ⟨x1.heap.size,rfl,p.out,o.out,d.out.size⟩
def VC w (b:Nat)(d:b=1\/b=2)(a:Lb)(c:a.length<=9223372036854774000):Calls prog 267 #[.int .i64 b,S a] w (zj w b a):=by
 rcases d with rfl|rfl
 ·exact VD w a c
 exact VE w a c
def D2 (k:Nat)(W:World):(nilAhead (k+1) 356 (.agg #[]) "souterrain/noise.seal").run prog W= .ok (some false) W:=qr
def D3 (k:Nat)(W:World):(nilAhead (k+1) 357 (.agg #[]) "souterrain/noise.seal").run prog W= .ok (some false) W:=qr
def OX (k:Nat)(W:World):(nilAhead (k+1) 356 (.agg #[]) "souterrain/noise.open").run prog W= .ok (some false) W:=qr
def OY (k:Nat)(W:World):(nilAhead (k+1) 357 (.agg #[]) "souterrain/noise.open").run prog W= .ok (some false) W:=qr
def Vu w (b:Nat)(hash c key d:Lb)(n:Nat)(h:bj w b 1 hash c key n)(hc:c.length<=32)(J:hash.length<=32)(ht:d.length<=9223372036854774000):
 Calls prog 242 #[.pointer (some ⟨b,0,none⟩),S d] w (kx w b 1 (cx 1 (hash++fM 1 c d)) (gI 1 c d) (uD 1 c d) 0):=by
 have l:∀W:World,Calls prog 37 #[.int .i64 1,S c,S d, .int .i64 3] W (pR (kH 1 (fI 1 c d) 3) W):=λW=>uf W 1 ut c d 3 pm pm pm pm;rw[Px]at l;have x:=CS;obtain ⟨c0,c1,c2,c3,c4⟩:=h.cells;have H:=Hq h;have t:=λ(W:World) (hW:bj W b 1 hash c key n)=>zN W b hash c key (fM 1 c d) n hW J (by rw[Ao];omega);unfold kx at*;generalize cx 1 (hash++fM 1 c d)=V0 at*;generalize gI 1 c d=y at*;generalize fM 1 c d=V2 at*;generalize uD 1 c d=z at*;rw[ie]at c0;clear c1 c3 c4 h J ht hc;unfold S at*;go_enter func242,ntmps242;go_wp2_with fail;go_region_held3 (λW=>W.cell? ⟨b,0,none⟩=some (.iface 356 (.agg #[]))/\W.cell? ⟨b,2,none⟩=some (.string ⟨c.toArray⟩)) (first|exact ⟨c0,c2⟩|exact ⟨C,I⟩|exact ⟨q,s⟩) (first
  |(go_at_call 311;(with_reducible refine (x _).mono ?_);rintro e x1 ⟨rfl,m⟩;have H1:bj x1 b 1 hash c key n:=ab.kept (ab.drew H.out) m nofun;obtain ⟨C,d1,I,d3,d4⟩:=H1.cells;unfold S at d1 I d3;rw[ie]at C)
  |(go_at_call 37;(with_reducible refine (l _).mono ?_);rintro e x2 ⟨v,rfl,p,o⟩;have i:bj x2 b 1 hash c key n:=ab.kept H1 o nofun;obtain ⟨q,m1,s,m3,m4⟩:=i.cells;unfold S at m1 s m3;rw[ie]at q))
 all_goals
  obtain ⟨g,a5,hv,a6,a7,a8,a9,j⟩:=wL p pu;have P:=Es p i ut;subst hv;have a':g≠b:=λe=>P (by rw[e];rfl);have U:=j 0 pu;have l1:=j 1 pu;have l2:=j 2 pu;have a2:=Hq (ai (ai (aM (ak w none)) m) o);have u:=t x2 i;clear p j P m o i q m1 s m3 m4 x l t;unfold S at*;go_wp2_with fail;refine u.mono ?_;rintro e x3 ⟨rfl,f,k⟩;have L0:=k.cell (a:=⟨g,0,none⟩) U pp;have L2:=k.cell (a:=⟨g,2,none⟩) l2 pp;obtain ⟨e0,e1,e2,e3,e4⟩:=f.cells;have f2:=ab.frozen f 2;have f3:=ab.frozen f 3;have f4:=ab.frozen f 4;have a3:=Hq f;have a0:=Hq (ai (eo (r:=some b) a2.out) k);clear f k u e0 e1 U l1 l2;unfold S at*;go_wp2_with fail;go_region
 all_goals
  have R:=ab.drew (ab.set (ab.set (ab.set a3.out 2 (.string ⟨y.toArray⟩)) 3 (.string ⟨z.toArray⟩)) 4 (.int .u64 0));have a4:=Hq R;have a1:=Hq (aM (aw (aw (aw a0.out 2 (.string ⟨y.toArray⟩)) 3 (.string ⟨z.toArray⟩)) 4 (.int .u64 0)));clear R;go_wp2;go_end0;exact ⟨rfl,a4.out,a1.out⟩
def VI w (b:Nat) hash chain key (n:Nat)(h:bj w b 1 hash chain key n)(C:chain.length<=32):
 Calls prog 243 #[.pointer (some ⟨b,0,none⟩)] w (Grown (.tuple #[S (gI 1 chain []),S (fM 1 chain [])]) w):=by
 have a:∀W:World,Calls prog 37 #[.int .i64 1,S chain,S [], .int .i64 2] W (pR (kH 1 (fI 1 chain []) 2) W):=λW=>uf W 1 ut chain [] 2 pm pm pm pu;rw[DW]at a;have l:=CS;obtain ⟨c0,c1,t,u,x⟩:=h.cells;have H:=Hq h;generalize gI 1 chain []=P at*;generalize fM 1 chain []=R at*;rw[ie]at c0;clear c1 u x h C;unfold S at*;go_enter func243,ntmps243;go_wp2_with fail;go_region_held3 (λW=>W.cell? ⟨b,0,none⟩=some (.iface 356 (.agg #[]))/\W.cell? ⟨b,2,none⟩=some (.string ⟨chain.toArray⟩)) (first|exact ⟨c0,t⟩|exact ⟨m,o⟩|exact ⟨i,j⟩) (first
  |(go_at_call 311;(with_reducible refine (l _).mono ?_);rintro e x1 ⟨rfl,d⟩;have H1:bj x1 b 1 hash chain key n:=ab.kept (ab.drew H.out) d nofun;obtain ⟨m,y,o,z,d4⟩:=H1.cells;unfold S at y o z;rw[ie]at m)
  |(go_at_call 37;(with_reducible refine (a _).mono ?_);rintro e x2 ⟨v,rfl,p,f⟩;have k:bj x2 b 1 hash chain key n:=ab.kept H1 f nofun;obtain ⟨i,q,j,r,J⟩:=k.cells;unfold S at q j r;rw[ie]at i))
 all_goals
  obtain ⟨g,U,I,a0,a1,a2,a3,c⟩:=wL p pu;subst I;have l0:=c 0 pu;have l1:=c 1 pu;have s:=Hq (ai (ai (aM (ak w none)) d) f);clear p c d f k i q j r J l a;unfold S at*;go_wp2_with fail;go_region
 all_goals
  go_wp2;go_ret2;exact ⟨rfl,aM s.out⟩
def Vv w (b:Nat)(hash c key d:Lb)(n:Nat)(h:bj w b 2 hash c key n)(hc:c.length<=32)(J:hash.length<=32)(ht:d.length<=9223372036854774000):
 Calls prog 242 #[.pointer (some ⟨b,0,none⟩),S d] w (kx w b 2 (cx 2 (hash++fM 2 c d)) (gI 2 c d) (uD 2 c d) 0):=by
 have l:∀W:World,Calls prog 37 #[.int .i64 2,S c,S d, .int .i64 3] W (pR (kH 2 (fI 2 c d) 3) W):=λW=>uf W 2 ut c d 3 pm pm pm pm;rw[Px]at l;have x:=CU;obtain ⟨c0,c1,c2,c3,c4⟩:=h.cells;have H:=Hq h;have t:=λ(W:World) (hW:bj W b 2 hash c key n)=>zO W b hash c key (fM 2 c d) n hW J (by rw[Ao];omega);unfold kx at*;generalize cx 2 (hash++fM 2 c d)=V0 at*;generalize gI 2 c d=y at*;generalize fM 2 c d=V2 at*;generalize uD 2 c d=z at*;rw[ig]at c0;clear c1 c3 c4 h J ht hc;unfold S at*;go_enter func242,ntmps242;go_wp2_with fail;go_region_held3 (λW=>W.cell? ⟨b,0,none⟩=some (.iface 357 (.agg #[]))/\W.cell? ⟨b,2,none⟩=some (.string ⟨c.toArray⟩)) (first|exact ⟨c0,c2⟩|exact ⟨C,I⟩|exact ⟨q,s⟩) (first
  |(go_at_call 315;(with_reducible refine (x _).mono ?_);rintro e x1 ⟨rfl,m⟩;have H1:bj x1 b 2 hash c key n:=ab.kept (ab.drew H.out) m nofun;obtain ⟨C,d1,I,d3,d4⟩:=H1.cells;unfold S at d1 I d3;rw[ig]at C)
  |(go_at_call 37;(with_reducible refine (l _).mono ?_);rintro e x2 ⟨v,rfl,p,o⟩;have i:bj x2 b 2 hash c key n:=ab.kept H1 o nofun;obtain ⟨q,m1,s,m3,m4⟩:=i.cells;unfold S at m1 s m3;rw[ig]at q))
 all_goals
  obtain ⟨g,a5,hv,a6,a7,a8,a9,j⟩:=wL p pu;have P:=Es p i ut;subst hv;have a':g≠b:=λe=>P (by rw[e];rfl);have U:=j 0 pu;have l1:=j 1 pu;have l2:=j 2 pu;have a2:=Hq (ai (ai (aM (ak w none)) m) o);have u:=t x2 i;clear p j P m o i q m1 s m3 m4 x l t;unfold S at*;go_wp2_with fail;refine u.mono ?_;rintro e x3 ⟨rfl,f,k⟩;have L0:=k.cell (a:=⟨g,0,none⟩) U pp;have L2:=k.cell (a:=⟨g,2,none⟩) l2 pp;obtain ⟨e0,e1,e2,e3,e4⟩:=f.cells;have f2:=ab.frozen f 2;have f3:=ab.frozen f 3;have f4:=ab.frozen f 4;have a3:=Hq f;have a0:=Hq (ai (eo (r:=some b) a2.out) k);clear f k u e0 e1 U l1 l2;unfold S at*;go_wp2_with fail;go_region
 all_goals
  have R:=ab.drew (ab.set (ab.set (ab.set a3.out 2 (.string ⟨y.toArray⟩)) 3 (.string ⟨z.toArray⟩)) 4 (.int .u64 0));have a4:=Hq R;have a1:=Hq (aM (aw (aw (aw a0.out 2 (.string ⟨y.toArray⟩)) 3 (.string ⟨z.toArray⟩)) 4 (.int .u64 0)));clear R;go_wp2;go_end0;exact ⟨rfl,a4.out,a1.out⟩
def VJ w (b:Nat) hash chain key (n:Nat)(h:bj w b 2 hash chain key n)(C:chain.length<=32):
 Calls prog 243 #[.pointer (some ⟨b,0,none⟩)] w (Grown (.tuple #[S (gI 2 chain []),S (fM 2 chain [])]) w):=by
 have a:∀W:World,Calls prog 37 #[.int .i64 2,S chain,S [], .int .i64 2] W (pR (kH 2 (fI 2 chain []) 2) W):=λW=>uf W 2 ut chain [] 2 pm pm pm pu;rw[DW]at a;have l:=CU;obtain ⟨c0,c1,t,u,x⟩:=h.cells;have H:=Hq h;generalize gI 2 chain []=P at*;generalize fM 2 chain []=R at*;rw[ig]at c0;clear c1 u x h C;unfold S at*;go_enter func243,ntmps243;go_wp2_with fail;go_region_held3 (λW=>W.cell? ⟨b,0,none⟩=some (.iface 357 (.agg #[]))/\W.cell? ⟨b,2,none⟩=some (.string ⟨chain.toArray⟩)) (first|exact ⟨c0,t⟩|exact ⟨m,o⟩|exact ⟨i,j⟩) (first
  |(go_at_call 315;(with_reducible refine (l _).mono ?_);rintro e x1 ⟨rfl,d⟩;have H1:bj x1 b 2 hash chain key n:=ab.kept (ab.drew H.out) d nofun;obtain ⟨m,y,o,z,d4⟩:=H1.cells;unfold S at y o z;rw[ig]at m)
  |(go_at_call 37;(with_reducible refine (a _).mono ?_);rintro e x2 ⟨v,rfl,p,f⟩;have k:bj x2 b 2 hash chain key n:=ab.kept H1 f nofun;obtain ⟨i,q,j,r,J⟩:=k.cells;unfold S at q j r;rw[ig]at i))
 all_goals
  obtain ⟨g,U,I,a0,a1,a2,a3,c⟩:=wL p pu;subst I;have l0:=c 0 pu;have l1:=c 1 pu;have s:=Hq (ai (ai (aM (ak w none)) d) f);clear p c d f k i q j r J l a;unfold S at*;go_wp2_with fail;go_region
 all_goals
  go_wp2;go_ret2;exact ⟨rfl,aM s.out⟩
end
end Go.Proofs.YtmomfbkpniblgaaGreatDoor
