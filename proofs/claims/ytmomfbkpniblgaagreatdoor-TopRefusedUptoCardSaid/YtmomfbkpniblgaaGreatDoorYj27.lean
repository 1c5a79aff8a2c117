/- A part of this claim's proof. -/
import Derived.Test.YtmomfbkpniblgaaGreatDoorYj16
import Derived.Test.YtmomfbkpniblgaaGreatDoorYj25
set_option linter.all false
set_option maxHeartbeats 8000000
set_option maxRecDepth 100000
namespace Go.Proofs.YtmomfbkpniblgaaGreatDoor
open Go.Proofs.Tryz
section
open Go.RowKit Top
structure iJ(now:Nat)(s:Se):Prop where
 ae:s.ae=1\/s.ae=2
 fy:s.fy<4294967296
 cu:s.cu<4294967296
 send:s.send.length=32
 recv:s.recv.length=32
 born:s.born<=now
 aG:s.aG<=1000
 next:s.next<=1099511627777
 bits:s.bits<18446744073709551616
def iS(w:World)(a:SA)(s:Se):Prop:=ab w a.pr 248 (PL a s)
def iS.cells {w}{a:SA}{s:Se}(h:iS w a s):w.cell? ⟨a.pr,0,none⟩=some (.pointer (some ⟨a.wn,0,none⟩))/\w.cell? ⟨a.pr,1,none⟩=some (.string ⟨s.send.toArray⟩)/\w.cell? ⟨a.pr,2,none⟩=some (.string ⟨s.recv.toArray⟩)/\w.cell? ⟨a.pr,3,none⟩=some (.int .i64 s.ae)/\w.cell? ⟨a.pr,4,none⟩=some (.int .i64 s.born)/\w.cell? ⟨a.pr,5,none⟩=some (.int .i64 s.aG)/\w.cell? ⟨a.pr,6,none⟩=some (.bool s.first)/\w.frozen? ⟨a.pr,5,none⟩=false:=
 ⟨ab.cell h 0,ab.cell h 1,ab.cell h 2,ab.cell h 3,ab.cell h 4,ab.cell h 5,ab.cell h 6,ab.frozen h 5⟩
def yr w (a:SA)(s:Se)(h:iS w a s)(n:s.born<=1099511627776)(c b:Nat)(M:Int)(k:M=(b:Int))(hm:b<=1000):
 Calls prog 168 #[.pointer (some ⟨a.pr,0,none⟩), .int .i64 c, .int .i64 M] w λe l=>e= .returned (.bool (s.oK c b))/\w=l:=by
 obtain ⟨c0,c1,d,f,m,g,i,j⟩:=h.cells;subst k;have p:IntKind.i64.wrap ((s.born:Int)+(b:Int))=(s.born:Int)+(b:Int):=dG _ pm;have o:decide ((s.born:Int)+(b:Int)<=(c:Int))=decide (s.born+b<=c):=by rw[<-vl];simp only[Int.ofNat_le]
 unfold Se.oK;clear c0 c1 d f g i j h;go_enter func168,ntmps168;go_wp2;go_ret;exact ⟨rfl,rfl⟩
def Eb w (a:SA)(s:Se)(h:iS w a s)(d:s.born<=1099511627776)(c:Nat):
 Calls prog 116 #[.pointer (some ⟨a.pr,0,none⟩), .int .i64 c] w λe l=>e= .returned (.bool (s.over c))/\w=l:=by
 have A:=yr w a s h d c 180 180 rfl pm;obtain ⟨c0,c1,f,g,i,m,j,k⟩:=h.cells;have n:decide ((1000:Int)<=(s.aG:Int))=decide (1000<=s.aG):=BM.2 pm;unfold Se.over;generalize s.oK c 180=b at*;clear c0 c1 f g i j k h d;cases b
 ·go_enter func116,ntmps116;go_wp2_with fail;refine A.mono ?_;rintro e x ⟨rfl,rfl⟩;go_wp2;go_ret;exact ⟨pu,rfl⟩
 go_enter func116,ntmps116;go_wp2_with fail;refine A.mono ?_;rintro e x ⟨rfl,rfl⟩;go_wp2;go_ret;exact ⟨rfl,rfl⟩
def O3 w (a:SA)(s:Se)(h:iS w a s)(c:s.born<=1099511627776)(b:Nat):
 Calls prog 119 #[.pointer (some ⟨a.pr,0,none⟩), .int .i64 b] w λe l=>e= .returned (.bool (s.rM b))/\w=l:=by
 have A:=Eb w a s h c b;have d:=yr w a s h c b 120 120 rfl pm;obtain ⟨c0,c1,f,g,i,j,m,k⟩:=h.cells;unfold Se.rM;clear c0 c1 f g i j k;generalize s.over b=x at*;generalize s.oK b 120=y at*;generalize s.first=first at*;clear h;cases x<;>cases first;all_goals
  go_enter func119,ntmps119;go_wp2_with fail;refine A.mono ?_;rintro e x ⟨rfl,rfl⟩;go_wp2_with (first|(go_at_call 168;(with_reducible refine d.mono ?_);rintro e x ⟨rfl,rfl⟩)|fail);go_ret;exact ⟨pu,rfl⟩
def O2 w (a:SA)(s:Se)(h:iS w a s)(f:s.born<=1099511627776)(b:Nat)(d:s.over b=true)(g:af):
 Calls prog 117 #[.pointer (some ⟨a.pr,0,none⟩),S g, .int .i64 b] w λe i=>e= .returned (.tuple #[.int .i64 0,S [], .int .i64 11])/\w=i:=by
 have c:=Eb w a s h f b;rw[d]at c;clear h d;unfold S at*;go_enter func117,ntmps117;go_wp2_with fail;refine c.mono ?_;rintro e x ⟨rfl,rfl⟩;go_wp2_with fail;refine bodyPost_ret (v:= .tuple #[.int .i64 0, .string ⟨#[]⟩, .int .i64 11]) (by simp[results,results117,go_sem]) rfl ?_;exact ⟨rfl,rfl⟩
def Fq(w:World)(a:SA)(s:Se)(c:af)(e:Ending)(b:World):Prop:=
 e= .returned (.tuple #[.int .i64 s.aG,S (jS s.ae s.send s.aG [] c), .int .i64 0])/\iS b a {s with aG:=s.aG+1}/\w.grownBy b (some a.pr)
def O1 w (a:SA)(s:Se)(h:iS w a s)(b:Nat)(ok:iJ b s)(a0:b<=1099511627776)(q:s.over b=false)(c:af)(ht:c.length<=2000):
 Calls prog 117 #[.pointer (some ⟨a.pr,0,none⟩),S c, .int .i64 b] w (Fq w a s c):=by
 have p:s.born<=1099511627776:=bJ ok.born a0;have i:=Eb w a s h p b;rw[q]at i;have u:=λW:World=>D9 W s.ae ok.ae s.send [] c s.aG (by have:=ok.aG;omega) ok.send pu ht;have wn:IntKind.u64.wrap (s.aG:Int)=(s.aG:Int):=dE _ (by have:=ok.aG;omega);have hs:=ok.aG;clear ok q p;obtain ⟨d,o,k,send,t,j,aG,first,next,bits⟩:=s;obtain ⟨c0,c1,C,I,J,P,R,n⟩:=h.cells;dsimp only at*;have H:=Hq h;unfold Fq;dsimp only;generalize jS d send aG [] c=V at*;clear c0 C J R n h;unfold S at*;go_enter func117,ntmps117;go_wp2_with fail;refine i.mono ?_;rintro e x ⟨rfl,rfl⟩;go_wp2_with fail;go_region_held3 (λW=>W.cell? ⟨a.pr,1,none⟩=some (.string ⟨send.toArray⟩)/\W.cell? ⟨a.pr,3,none⟩=some (.int .i64 d)/\W.cell? ⟨a.pr,5,none⟩=some (.int .i64 aG)) (first|exact ⟨c1,I,P⟩|exact ⟨l,m,d5⟩) (first
  |(go_at_call 169;(with_reducible refine (u _).mono ?_);rintro e x1 ⟨rfl,g⟩;have H1:iS x1 a ⟨d,o,k,send,t,j,aG,first,next,bits⟩:=ab.kept (ab.drew H.out) g nofun;obtain ⟨U,l,d2,m,d4,d5,d6,n⟩:=H1.cells))
 all_goals
  have n5:=H1.cells.2.2.2.2.2.2.2;have f:iS (x1.setCell ⟨a.pr,5,none⟩ (.int .i64 ((aG:Int)+1))) a ⟨d,o,k,send,t,j,aG+1,first,next,bits⟩:=ab.set H1 5 (.int .i64 ((aG:Int)+1));obtain ⟨m0,m1,m2,m3,m4,m5,m6,m7⟩:=f.cells;have y:=Hq (aw (eo (r:=some a.pr) (ai (aM (ak w none)) g)) 5 (.int .i64 ((aG:Int)+1)));have z:=Hq f;clear g H1 f m0 m1 m2 m3 m4 m6 m7 U l d2 m d4 d6;dsimp only at*;go_wp2_with fail;refine bodyPost_ret (v:= .tuple #[.int .i64 aG, .string ⟨V.toArray⟩, .int .i64 0]) (by simp[results,results117,go_sem]) rfl ?_;exact ⟨rfl,z.out,y.out⟩
def tA(next bits n:Nat):Bool:=gu (next:Int) bits (n:Int)==0
def kM(next bits n:Nat):Nat×Nat:=((jE (next:Int) bits (n:Int)).1.toNat,(jE (next:Int) bits (n:Int)).2)
def sy(w:World)(e:Ending)(a:World):Prop:=∃c:Nat,c≠0/\c<=15/\e= .returned (.tuple #[S [], .int .i64 c])/\w.grownBy a none
def O0 w (a:SA)(s:Se)(h:iS w a s)(b:Nat)(f:s.born<=1099511627776)(d:s.oK b 180=true)(n:Nat)(g:af):
 Calls prog 246 #[.pointer (some ⟨a.pr,0,none⟩), .int .i64 n,S g, .int .i64 b] w (sy w):=by
 have c:=yr w a s h f b 180 180 rfl pm;rw[d]at c;unfold sy;clear h d;unfold S at*;go_enter func246,ntmps246;go_wp2_with fail;refine c.mono ?_;rintro e x ⟨rfl,rfl⟩;go_wp2_with fail;refine bodyPost_ret (v:= .tuple #[.string ⟨#[]⟩, .int .i64 11]) (by simp[results,results246,go_sem]) rfl ?_;exact ⟨11,pm,pm,rfl,ak _ _⟩
def N8 w (a:SA)(s:Se)(h:iS w a s)(l:gH w a.wn (s.next:Int) s.bits)(d:Nat)(ok:iJ d s)(J:d<=1099511627776)(k:s.oK d 180=false)(n:Nat)(R:n<=1099511627776)(g:tA s.next s.bits n=false)(P:af):
 Calls prog 246 #[.pointer (some ⟨a.pr,0,none⟩), .int .i64 n,S P, .int .i64 d] w (sy w):=by
 have i:=yr w a s h (bJ ok.born J) d 180 180 rfl pm;rw[k]at i;have o:=wQ w a.wn (s.next:Int) s.bits (n:Int) l pm (by have:=ok.next;omega) ok.bits (wf_i64 pm);have q:(gu (s.next:Int) s.bits (n:Int) !=0)=true:=by unfold tA at g;simp[bne,g]
 have m:gu (s.next:Int) s.bits (n:Int)=1\/gu (s.next:Int) s.bits (n:Int)=11:=by
  have b:gu (s.next:Int) s.bits (n:Int)≠0:=by simpa using q
  unfold gu at b⊢;split
  ·left;rfl
  rename_i C;rw[au C]at b;split
  ·rename_i f;rw[av f]at b;exact absurd rfl b
  rename_i f;rw[au f]at b;split
  ·right;rfl
  rename_i I;rw[au I]at b;exact absurd rfl b
 have H:=Hq m;generalize gu (s.next:Int) s.bits (n:Int)=c at*;obtain ⟨c0,c1,p,r,t,u,y,z⟩:=h.cells;unfold sy;clear h k l g c1 p r t u y z m;unfold S at*;go_enter func246,ntmps246;go_wp2_with fail;refine i.mono ?_;rintro e x ⟨rfl,rfl⟩;go_wp2_with fail;refine ax o λx j=>?_;go_wp2_with fail;refine bodyPost_ret (v:= .tuple #[.string ⟨#[]⟩, .int .i64 c]) (by simp[results,results246,go_sem]) rfl ?_;rcases H.out with rfl|rfl
 ·exact ⟨1,pm,pm,rfl,j⟩
 exact ⟨11,pm,pm,rfl,j⟩
def N7 w (a:SA)(s:Se)(h:iS w a s)(hw:gH w a.wn (s.next:Int) s.bits)(d:Nat)(ok:iJ d s)(a5:d<=1099511627776)(U:s.oK d 180=false)(n:Nat)(hn:n<=1099511627776)(R:tA s.next s.bits n=true)(a0:af)(c:Nat)(a3:c≠0)(a4:c<=15)
 (A3:∀W:World,Calls prog 276 #[.int .i64 s.ae,S s.recv, .int .u64 n,S [],S a0] W (Grown (.tuple #[S [], .int .i64 c]) W)):
 Calls prog 246 #[.pointer (some ⟨a.pr,0,none⟩), .int .i64 n,S a0, .int .i64 d] w (sy w):=by
 have r:=yr w a s h (bJ ok.born a5) d 180 180 rfl pm;rw[U]at r;have t:=wQ w a.wn (s.next:Int) s.bits (n:Int) hw pm (by have:=ok.next;omega) ok.bits (wf_i64 pm);have q:gu (s.next:Int) s.bits (n:Int)=0:=by simpa[tA]using R
 rw[q]at t;have wn:IntKind.u64.wrap (n:Int)=(n:Int):=dE _ pm;have q2:((c:Int) !=0)=true:=by rw[dY];omega
 obtain ⟨f,P,C,send,p,z,aG,first,next,bits⟩:=s;obtain ⟨c0,c1,g,i,j,k,l,b⟩:=h.cells;dsimp only at*;have H:=Hq h;unfold sy;clear h U hw R ok q c1 g i j k l b;unfold S at*;go_enter func246,ntmps246;go_wp2_with fail;refine r.mono ?_;rintro e x ⟨rfl,rfl⟩;go_wp2_with fail;refine ax t λx m=>?_;have H1:iS x a ⟨f,P,C,send,p,z,aG,first,next,bits⟩:=ab.kept H.out m nofun
 obtain ⟨c0,c1,g,i,j,k,l,b⟩:=H1.cells;dsimp only at*;have a2:=Hq H1;have y:=Hq m;clear m H1 c0 c1 j k l b H;go_wp2_with fail;go_region_held3 (λW=>W.cell? ⟨a.pr,2,none⟩=some (.string ⟨p.toArray⟩)/\W.cell? ⟨a.pr,3,none⟩=some (.int .i64 f)) (first|exact ⟨g,i⟩|exact ⟨I,J⟩) (first
  |(go_at_call 276;(with_reducible refine (A3 _).mono ?_);rintro e x1 ⟨rfl,o⟩;have u:iS x1 a ⟨f,P,C,send,p,z,aG,first,next,bits⟩:=ab.kept (ab.drew a2.out) o nofun;obtain ⟨d0,d1,I,J,d4,d5,d6,b⟩:=u.cells))
 all_goals
  have a1:=Hq (ai y.out (ai (aM (ak _ none)) o));clear o u d0 d1 I J d4 d5 d6 b y;go_wp2_with fail;refine bodyPost_ret (v:= .tuple #[.string ⟨#[]⟩, .int .i64 c]) (by simp[results,results246,go_sem]) rfl ?_;exact ⟨c,a3,a4,rfl,a1.out⟩
def Kj(w:World)(a:SA)(s:Se)(n:Nat)(t:af)(e:Ending)(b:World):Prop:=
 e= .returned (.tuple #[S t, .int .i64 0])/\iS b a s/\gH b a.wn ((kM s.next s.bits n).1:Int) (kM s.next s.bits n).2/\w.grownBy b (some a.wn)
def acO (next bits n:Nat):((kM next bits n).1:Int)=(jE (next:Int) bits (n:Int)).1/\(kM next bits n).2=(jE (next:Int) bits (n:Int)).2:=by
 refine ⟨?_,rfl⟩;unfold kM;have:0<=(jE (next:Int) bits (n:Int)).1:=by
  unfold jE;split
  ·simp
  split
  ·simp
  simp;omega
 simp only;omega
def N9 w (a:SA)(s:Se)(h:iS w a s)(j:gH w a.wn (s.next:Int) s.bits)(c:Nat)(ok:iJ c s)(a9:c<=1099511627776)(ho:s.oK c 180=false)(n:Nat)(hn:n<=1099511627776)(hc:tA s.next s.bits n=true)(a3 t:af)
 (A3:∀W:World,Calls prog 276 #[.int .i64 s.ae,S s.recv, .int .u64 n,S [],S a3] W (Grown (.tuple #[S t, .int .i64 0]) W)):
 Calls prog 246 #[.pointer (some ⟨a.pr,0,none⟩), .int .i64 n,S a3, .int .i64 c] w (Kj w a s n t):=by
 have J:=yr w a s h (bJ ok.born a9) c 180 180 rfl pm;rw[ho]at J;have I:(Lit.int .i64 n).wf=true:=wf_i64 pm;have P:=wQ w a.wn (s.next:Int) s.bits (n:Int) j pm (by have:=ok.next;omega) ok.bits I;have d:=λ(W:World) (k:gH W a.wn (s.next:Int) s.bits)=>acs W a.wn (s.next:Int) s.bits (n:Int) k pm (by have:=ok.next;omega) ok.bits I;have q:gu (s.next:Int) s.bits (n:Int)=0:=by simpa[tA]using hc
 rw[q]at P d;obtain ⟨t1,t2⟩:=acO s.next s.bits n;rw[<-t1,<-t2]at d;have wn:IntKind.u64.wrap (n:Int)=(n:Int):=dE _ pm;have a8:a.pr≠a.wn:=λe=>by have h1:=ab.kind h;have h2:=j.kind;rw[<-e,h1]at h2;exact absurd (aH h2) ut
 obtain ⟨f,C,z,send,l,o,aG,first,next,bits⟩:=s;obtain ⟨c0,c1,p,r,u,v,y,b⟩:=h.cells;dsimp only at*;have H:=Hq h;have U:=Hq j;unfold Kj;dsimp only;generalize kM next bits n=T at*;clear h ho j hc ok q c1 p r u v y b I t1 t2;unfold S at*;go_enter func246,ntmps246;go_wp2_with fail;refine J.mono ?_;rintro e x ⟨rfl,rfl⟩;go_wp2_with fail;refine ax P λx g=>?_;have H1:iS x a ⟨f,C,z,send,l,o,aG,first,next,bits⟩:=ab.kept H.out g nofun
 have a0:=Hq (U.out.kept g nofun);obtain ⟨c0,c1,p,r,u,v,y,b⟩:=H1.cells;dsimp only at*;have a5:=Hq H1;have R:=Hq g;clear g H1 c0 c1 u v y b H U;go_wp2_with fail;go_region_held3 (λW=>W.cell? ⟨a.pr,2,none⟩=some (.string ⟨l.toArray⟩)/\W.cell? ⟨a.pr,3,none⟩=some (.int .i64 f)) (first|exact ⟨p,r⟩|exact ⟨d2,d3⟩) (first
  |(go_at_call 276;(with_reducible refine (A3 _).mono ?_);rintro e x1 ⟨rfl,i⟩;have m:iS x1 a ⟨f,C,z,send,l,o,aG,first,next,bits⟩:=ab.kept (ab.drew a5.out) i nofun;obtain ⟨d0,d1,d2,d3,d4,d5,d6,b⟩:=m.cells))
 all_goals
  have a1:=a0.out.kept (ai (aM (ak _ none)) i) nofun
  have A5:=d _ a1;have a4:=Hq (ai R.out (ai (aM (ak _ none)) i));have a6:=Hq m;clear i m d1 d2 d3 d4 d5 d6 b d a1 a0 R;go_wp2_with fail;refine A5.mono ?_;rintro e x3 ⟨rfl,a',a2⟩;have a7:iS x3 a ⟨f,C,z,send,l,o,aG,first,next,bits⟩:=ab.kept a6.out a2 (λe=>a8 (aH e));go_wp2;go_ret2;exact ⟨rfl,a7,a',ai (eo a4.out) a2⟩
end
end Go.Proofs.YtmomfbkpniblgaaGreatDoor
