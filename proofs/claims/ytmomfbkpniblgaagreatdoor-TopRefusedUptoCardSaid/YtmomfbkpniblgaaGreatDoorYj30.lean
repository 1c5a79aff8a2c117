/- A part of this claim's proof. -/
import Derived.Test.YtmomfbkpniblgaaGreatDoorYj16
import Derived.Test.YtmomfbkpniblgaaGreatDoorYj28
set_option linter.all false
set_option maxHeartbeats 4000000
set_option maxRecDepth 100000
namespace Go.Proofs.YtmomfbkpniblgaaGreatDoor
open Go.Proofs.Tryz
section
open Go.RowKit Top
def fg(a:af)(n:Nat):af:=jP 1 (fI 1 a (bo n 8)) 1
def nU (a:af)(n:Nat):(fg a n).length=32:=by unfold fg;rw[jP,wm]
def gf.y' {x}{A:DA}{y z}{A':DA}{d':Dv Bu}(h:gf x A y A' d')(g:y.grownBy z none):gf x A z A' d':=
 ⟨h.dv.new g,h.only.trans (aC.new g []) pu,h.e1,h.e2,h.e3,h.e4,h.e5,h.fa⟩
def LC w (A:DA)(d:Dv Bu)(h:cZ w A d)(f:d.index<4294967295):
 Calls prog 170 #[ptr A.dev] w λe y=>e= .returned (.int .u32 (d.index+1:Nat))/\gf w A y A d.wo:=by
 have b:w.cell? ⟨A.dev,7,none⟩=some (.int .u32 d.index):=ab.cell h.dv 7;have c:=ab.frozen h.dv 7;have g:IntKind.u32.wrap ((d.index:Int)+1)=(d.index:Int)+1:=pN _ pm;have a:=Hq (h.put (d':=d.wo) 7 (.int .u32 ((d.index:Int)+1)) (by simp only[sM,Dv.wo,ny,iD];rw[vl];rfl) rfl rfl rfl rfl);clear h;unfold ptr;go_enter func170,ntmps170;go_wp2;go_ret;exact ⟨by rw[vl];rfl,a.out⟩
def xQ w (A:DA)(d:Dv Bu)(h:cZ w A d)(hf:d.fresh<18446744073709551615)(hs:d.an.length<=1000):
 Calls prog 68 #[ptr A.dev] w λe y=>e= .returned (S (fg d.an d.fresh))/\gf w A y A d.fu:=by
 have AB:∀W:World,Calls prog 70 #[.slice none 0 0, .int .u64 d.fresh, .int .i64 8] W (mH W W.heap.size (bo d.fresh 8)):=λW=>pC W W.heap.size (.slice none 0 0) [] d.fresh 8 (mO _ _) pm pm pm pu (bm _);have AD:∀W:World,Calls prog 37 #[.int .i64 1,S d.an,S (bo d.fresh 8), .int .i64 1] W (pR [fg d.an d.fresh] W):=λW=>by have:=uf W 1 (Or.inl rfl) d.an (bo d.fresh 8) 1 pm pm pm (by rw[fw];omega);exact this
 have H:=Hq h;clear h;unfold mH at AB;unfold pR S at AD;generalize a0:bo d.fresh 8=bb at*;clear a0;generalize a1:fg d.an d.fresh=kk at*;clear a1;unfold S ptr;go_enter func68,ntmps68;go_wp2_with fail;have J:eF 16 1001 1002 (λa b=>a.grownBy b none) (λ_ _ _=>True) [(8,λm zz=>(λv x=>dq x w.heap.size v (bb)) m.v zz),(10,λm zz=>(λv x=>np x w.heap.size v [kk]) m.v zz)]:=⟨λ_ _ h=>h,λ_ _ _=>ai,λ_ _ _ _ _ _=>True.intro,⟨λ_ ⟨_,v⟩ x y h g=>tF h g (by cases v.ownBlock<;>simp),λ_ ⟨_,v⟩ x y h g=>h.uz g,True.intro⟩,λe=>absurd e ut,λe=>absurd e ut,qr⟩;apply gT J qr qr (True.intro);intro z;iterate 8 (apply aX;rfl;(intro n o x q r s t f c u;first|(go_simp;exact aq)|(have l:=H.out.new c;have a2:=ab.cell l.dv;go_simp;exact aq));simp only[aA])
 apply jy J (λm=>m.v) 0 rfl ut
 ·intro n o x q r s t f c u;have l:=H.out.new c
  go_simp
  refine (AB _).mono ?_;rintro e y ⟨v,rfl,P,R⟩;exact gp ⟨0,v⟩ (iU R) (PC P c.size)
 simp only[aA];apply aX;rfl
 ·intro n o x q r s t f c u;have U:=f.at (k:=0) (j:=8) rfl qr;generalize (z 8).v=v8 at*;have l:=H.out.new c;have kc:=jL U;unfold S at kc
  go_simp
  exact aq
 simp only[aA];apply jy J (λm=>(λv=> .tuple #[v, .int .i64 0]) m.v) 1 rfl ut
 ·intro n o x q r s t f c u;have l:=H.out.new c
  go_simp
  refine (AD _).mono ?_;rintro e y ⟨v,rfl,P,R⟩;exact gp ⟨0,v⟩ R (PC P c.size)
 simp only[aA];apply qv 10 (λm=>(λv=> .tuple #[v, .int .i64 0]) m.v);kernel_rfl
 ·intro n o x q r s t f c u;have C:=f.at (k:=1) (j:=10) rfl qr;generalize (z 10).v=I at*;have l:=H.out.new c
  go_simp
  exact aq
 simp only[aA];apply qv 10 (λm=>m.v);kernel_rfl
 ·intro n o x q r s t f c u;have C:=f.at (k:=1) (j:=10) rfl qr;generalize (z 10).v=I at*;have l:=H.out.new c
  go_simp
  exact aq
 simp only[aA];apply aX;rfl
 ·intro n o x q r s t f c u;have C:=f.at (k:=1) (j:=10) rfl qr;generalize (z 10).v=I at*;have l:=H.out.new c
  go_simp
  exact aq
 simp only[aA];apply qv 10 (λm=>m.v);kernel_rfl
 ·intro n o x q r s t f c u;have C:=f.at (k:=1) (j:=10) rfl qr;generalize (z 10).v=I at*;have l:=H.out.new c
  go_simp
  exact aq
 simp only[aA];apply aX;rfl;·(intro n o x q r s t f c u;first|(go_simp;exact aq)|(have l:=H.out.new c;have a2:=ab.cell l.dv;go_simp;exact aq))
 simp only[aA];refine pz ?_;intro x c hR f;have U:=f.at (k:=0) (j:=8) rfl;generalize (z 8).v=v8 at*;have C:=f.at (k:=1) (j:=10) rfl;generalize (z 10).v=I at*;have l:=H.out.new c;obtain ⟨k0,k1,rfl,l1,l2,l3,l4,l5⟩:=wL C pu;have cf:x.cell? ⟨A.dev,5,none⟩=some (.int .u64 d.fresh):=ab.cell l.dv 5;have ff:=ab.frozen l.dv 5;have gs:=aw (ak x (some A.dev)) 5 (.int .u64 ((d.fresh:Int)+1));have cr:(x.setCell ⟨A.dev,5,none⟩ (.int .u64 ((d.fresh:Int)+1))).cell? ⟨k0,0,none⟩=some (.string ⟨kk.toArray⟩):=gs.cell (l5 0 pu) (λe=>by have e2:=H.out.dv.lt;have e3:=aH e;simp only at e3;omega)
 have wf:IntKind.u64.wrap ((d.fresh:Int)+1)=(d.fresh:Int)+1:=dE _ pm;have HD:=Hq (l.put (d':=d.fu) 5 (.int .u64 ((d.fresh:Int)+1)) (by simp only[sM,Dv.fu,ny,iD];rw[vl];rfl) rfl rfl rfl rfl);have HG:=Hq c;clear l l5 gs c C U;go_wp2;go_ret;have p:=HD.out;exact ⟨rfl,p.dv,(aC.new HG.out A.fp).trans p.only (λi hi=>Or.inl hi),p.e1,p.e2,p.e3,p.e4,p.e5,λb hb=>(p.fa b hb).imp id (λe=>bJ HG.out.size e)⟩
end
section
open Go.RowKit
def aaH w (b:Nat)(hash c key d a:Lb)(n:Nat)(h:bj w b 1 hash c key n)(m:key.length=32)(l:hash.length<=32)(J:n<18446744073709551000)(q:a.length<=9223372036854774000)
 (C:∀W:World,Calls prog 314 #[.agg #[],S key,S (cF 1 n),S hash,S d] W (Grown (.tuple #[S a, .int .i64 0]) W)):
 Calls prog 270 #[.pointer (some ⟨b,0,none⟩),S d] w (λe r=>e= .returned (.tuple #[S a, .int .i64 0])/\bj r b 1 (cx 1 (hash++a)) c key (n+1)/\w.grownBy r (some b)):=by
 have i:=abn w b hash c key d a n h m J C;obtain ⟨c0,c1,v,y,z⟩:=h.cells;rw[ie]at c0;have NA:=D2;have f:=λ(W:World) (I:bj W b 1 hash c key (n+1))=>zN W b hash c key a (n+1) I l q;generalize cx 1 (hash++a)=V at*;clear C c1 v y z h m l q;unfold S at*;go_enter func270,ntmps270;go_wp2_with fail;refine i.mono ?_;rintro e x ⟨rfl,o,j⟩;have g:=f x o;have s:=Hq j;clear f o j i;go_wp2_with fail;refine g.mono ?_;rintro e x2 ⟨rfl,p,k⟩;have t:=Hq (ai s.out k);have u:=Hq p;clear p k g;go_wp2;go_ret2;exact ⟨rfl,u.out,t.out⟩
def aaI w (b:Nat)(hash c key d a:Lb)(n:Nat)(h:bj w b 2 hash c key n)(m:key.length=32)(l:hash.length<=32)(J:n<18446744073709551000)(q:a.length<=9223372036854774000)
 (C:∀W:World,Calls prog 318 #[.agg #[],S key,S (cF 2 n),S hash,S d] W (Grown (.tuple #[S a, .int .i64 0]) W)):
 Calls prog 270 #[.pointer (some ⟨b,0,none⟩),S d] w (λe r=>e= .returned (.tuple #[S a, .int .i64 0])/\bj r b 2 (cx 2 (hash++a)) c key (n+1)/\w.grownBy r (some b)):=by
 have i:=abo w b hash c key d a n h m J C;obtain ⟨c0,c1,v,y,z⟩:=h.cells;rw[ig]at c0;have NA:=D3;have f:=λ(W:World) (I:bj W b 2 hash c key (n+1))=>zO W b hash c key a (n+1) I l q;generalize cx 2 (hash++a)=V at*;clear C c1 v y z h m l q;unfold S at*;go_enter func270,ntmps270;go_wp2_with fail;refine i.mono ?_;rintro e x ⟨rfl,o,j⟩;have g:=f x o;have s:=Hq j;clear f o j i;go_wp2_with fail;refine g.mono ?_;rintro e x2 ⟨rfl,p,k⟩;have t:=Hq (ai s.out k);have u:=Hq p;clear p k g;go_wp2;go_ret2;exact ⟨rfl,u.out,t.out⟩
def aaD w (b:Nat) hash chain key text a (n:Nat)(c:Int)(j:(c==0)=false)(h:bj w b 1 hash chain key n)(d:key.length=32)(l:n<18446744073709551000)
 (C:∀W:World,Calls prog 313 #[.agg #[],S key,S (cF 1 n),S hash,S text] W (Grown (.tuple #[S a, .int .i64 c]) W)):
 Calls prog 272 #[.pointer (some ⟨b,0,none⟩),S text] w (Grown (.tuple #[S a, .int .i64 c]) w):=by
 have e:=abj w b hash chain key text a n c j h d l C;obtain ⟨c0,c1,f,g,i⟩:=h.cells;rw[ie]at c0;have NA:=OX;clear C c1 f g i h d;unfold S at*;go_enter func272,ntmps272;go_wp2_with fail;refine ax e λx k=>?_;go_wp2;go_ret2;exact ⟨rfl,k⟩
def aaE w (b:Nat)(hash d key c a:Lb)(n:Nat)(h:bj w b 1 hash d key n)(m:key.length=32)(l:hash.length<=32)(J:n<18446744073709551000)(q:c.length<=9223372036854774000)
 (C:∀W:World,Calls prog 313 #[.agg #[],S key,S (cF 1 n),S hash,S c] W (Grown (.tuple #[S a, .int .i64 0]) W)):
 Calls prog 272 #[.pointer (some ⟨b,0,none⟩),S c] w (λe r=>e= .returned (.tuple #[S a, .int .i64 0])/\bj r b 1 (cx 1 (hash++c)) d key (n+1)/\w.grownBy r (some b)):=by
 have i:=abk w b hash d key c a n h m J C;obtain ⟨c0,c1,v,y,z⟩:=h.cells;rw[ie]at c0;have NA:=OX;have f:=λ(W:World) (I:bj W b 1 hash d key (n+1))=>zN W b hash d key c (n+1) I l q;generalize cx 1 (hash++c)=V at*;clear C c1 v y z h m l q;unfold S at*;go_enter func272,ntmps272;go_wp2_with fail;refine i.mono ?_;rintro e x ⟨rfl,o,j⟩;have g:=f x o;have s:=Hq j;clear f o j i;go_wp2_with fail;refine g.mono ?_;rintro e x2 ⟨rfl,p,k⟩;have t:=Hq (ai s.out k);have u:=Hq p;clear p k g;go_wp2;go_ret2;exact ⟨rfl,u.out,t.out⟩
def aaF w (b:Nat) hash chain key text a (n:Nat)(c:Int)(j:(c==0)=false)(h:bj w b 2 hash chain key n)(d:key.length=32)(l:n<18446744073709551000)
 (C:∀W:World,Calls prog 317 #[.agg #[],S key,S (cF 2 n),S hash,S text] W (Grown (.tuple #[S a, .int .i64 c]) W)):
 Calls prog 272 #[.pointer (some ⟨b,0,none⟩),S text] w (Grown (.tuple #[S a, .int .i64 c]) w):=by
 have e:=abl w b hash chain key text a n c j h d l C;obtain ⟨c0,c1,f,g,i⟩:=h.cells;rw[ig]at c0;have NA:=OY;clear C c1 f g i h d;unfold S at*;go_enter func272,ntmps272;go_wp2_with fail;refine ax e λx k=>?_;go_wp2;go_ret2;exact ⟨rfl,k⟩
def aaG w (b:Nat)(hash d key c a:Lb)(n:Nat)(h:bj w b 2 hash d key n)(m:key.length=32)(l:hash.length<=32)(J:n<18446744073709551000)(q:c.length<=9223372036854774000)
 (C:∀W:World,Calls prog 317 #[.agg #[],S key,S (cF 2 n),S hash,S c] W (Grown (.tuple #[S a, .int .i64 0]) W)):
 Calls prog 272 #[.pointer (some ⟨b,0,none⟩),S c] w (λe r=>e= .returned (.tuple #[S a, .int .i64 0])/\bj r b 2 (cx 2 (hash++c)) d key (n+1)/\w.grownBy r (some b)):=by
 have i:=abm w b hash d key c a n h m J C;obtain ⟨c0,c1,v,y,z⟩:=h.cells;rw[ig]at c0;have NA:=OY;have f:=λ(W:World) (I:bj W b 2 hash d key (n+1))=>zO W b hash d key c (n+1) I l q;generalize cx 2 (hash++c)=V at*;clear C c1 v y z h m l q;unfold S at*;go_enter func272,ntmps272;go_wp2_with fail;refine i.mono ?_;rintro e x ⟨rfl,o,j⟩;have g:=f x o;have s:=Hq j;clear f o j i;go_wp2_with fail;refine g.mono ?_;rintro e x2 ⟨rfl,p,k⟩;have t:=Hq (ai s.out k);have u:=Hq p;clear p k g;go_wp2;go_ret2;exact ⟨rfl,u.out,t.out⟩
end
end Go.Proofs.YtmomfbkpniblgaaGreatDoor
