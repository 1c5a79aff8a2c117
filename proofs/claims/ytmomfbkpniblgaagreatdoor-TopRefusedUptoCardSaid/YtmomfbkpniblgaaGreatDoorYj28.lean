/- A part of this claim's proof. -/
import Derived.Test.YtmomfbkpniblgaaGreatDoorYj26
set_option linter.all false
set_option maxHeartbeats 4000000
set_option maxRecDepth 100000
namespace Go.Proofs.YtmomfbkpniblgaaGreatDoor
open Go.Proofs.Tryz
section
open Go.RowKit
def xU {l:Lb}(h:l.length=32):(l==[])=false:=by rw[dC];intro e;rw[e]at h;simp at h
def abn w (b:Nat) hash chain key text a (n:Nat)(h:bj w b 1 hash chain key n)(c:key.length=32)(R:n<18446744073709551000)
 (C:∀W:World,Calls prog 314 #[.agg #[],S key,S (cF 1 n),S hash,S text] W (Grown (.tuple #[S a, .int .i64 0]) W)):
 Calls prog 286 #[.pointer (some ⟨b,0,none⟩),S text, .func (.method "souterrain/noise.seal") #[.iface 356 (.agg #[])] #[]] w (λe s=>e= .returned (.tuple #[S a, .int .i64 0])/\bj s b 1 hash chain key (n+1)/\w.grownBy s (some b)):=by
 obtain ⟨c0,c1,x,y,z⟩:=h.cells;rw[ie]at c0;have J:=ab.frozen h 4;have t:=λW:World=>zM W n pm;have ne:=xU c;have U:key.isEmpty=false:=by rw[ou];intro e;rw[e]at c;simp at c
 have a0:key≠[]:=by intro e;rw[e]at c;simp at c
 have w1:IntKind.u64.wrap ((n:Int)+1)=(n:Int)+1:=dE _ pm;have H:=Hq h;generalize cF 1 n=O at*;clear x h c;unfold S at*;go_enter func286,ntmps286;go_wp2_with fail;go_region_held3 (λW=>W.cell? ⟨b,0,none⟩=some (.iface 356 (.agg #[]))/\W.cell? ⟨b,1,none⟩=some (.string ⟨hash.toArray⟩)/\W.cell? ⟨b,3,none⟩=some (.string ⟨key.toArray⟩)/\W.cell? ⟨b,4,none⟩=some (.int .u64 n)) (first|exact ⟨c0,c1,y,z⟩|exact ⟨f,g,i,q⟩|exact ⟨j,k,l,I⟩) (first
  |(go_at_call 312;(with_reducible refine (t _).mono ?_);rintro e x1 ⟨rfl,m⟩;have H1:bj x1 b 1 hash chain key n:=ab.kept (ab.drew H.out) m nofun;obtain ⟨f,g,p,i,q⟩:=H1.cells;unfold S at g p i;rw[ie]at f;clear p)
  |(go_at_call 314;(with_reducible refine (C _).mono ?_);rintro e x2 ⟨rfl,o⟩;have d:bj x2 b 1 hash chain key n:=ab.kept H1 o nofun;obtain ⟨j,k,r,l,I⟩:=d.cells;unfold S at k r l;rw[ie]at j;have P:=ab.frozen d 4))
 all_goals
  have u:=Hq (ai (ai (aM (ak w none)) m) o);have v:=Hq d;clear m o H1 d f g i q j k r l;go_wp2;go_ret2;exact ⟨rfl,ab.set v.out 4 (.int .u64 ((n:Int)+1)),aw (eo u.out) 4 _⟩
def abo w (b:Nat) hash chain key text a (n:Nat)(h:bj w b 2 hash chain key n)(c:key.length=32)(R:n<18446744073709551000)
 (C:∀W:World,Calls prog 318 #[.agg #[],S key,S (cF 2 n),S hash,S text] W (Grown (.tuple #[S a, .int .i64 0]) W)):
 Calls prog 286 #[.pointer (some ⟨b,0,none⟩),S text, .func (.method "souterrain/noise.seal") #[.iface 357 (.agg #[])] #[]] w (λe s=>e= .returned (.tuple #[S a, .int .i64 0])/\bj s b 2 hash chain key (n+1)/\w.grownBy s (some b)):=by
 obtain ⟨c0,c1,x,y,z⟩:=h.cells;rw[ig]at c0;have J:=ab.frozen h 4;have t:=λW:World=>zQ W n pm;have ne:=xU c;have U:key.isEmpty=false:=by rw[ou];intro e;rw[e]at c;simp at c
 have a0:key≠[]:=by intro e;rw[e]at c;simp at c
 have w1:IntKind.u64.wrap ((n:Int)+1)=(n:Int)+1:=dE _ pm;have H:=Hq h;generalize cF 2 n=O at*;clear x h c;unfold S at*;go_enter func286,ntmps286;go_wp2_with fail;go_region_held3 (λW=>W.cell? ⟨b,0,none⟩=some (.iface 357 (.agg #[]))/\W.cell? ⟨b,1,none⟩=some (.string ⟨hash.toArray⟩)/\W.cell? ⟨b,3,none⟩=some (.string ⟨key.toArray⟩)/\W.cell? ⟨b,4,none⟩=some (.int .u64 n)) (first|exact ⟨c0,c1,y,z⟩|exact ⟨f,g,i,q⟩|exact ⟨j,k,l,I⟩) (first
  |(go_at_call 316;(with_reducible refine (t _).mono ?_);rintro e x1 ⟨rfl,m⟩;have H1:bj x1 b 2 hash chain key n:=ab.kept (ab.drew H.out) m nofun;obtain ⟨f,g,p,i,q⟩:=H1.cells;unfold S at g p i;rw[ig]at f;clear p)
  |(go_at_call 318;(with_reducible refine (C _).mono ?_);rintro e x2 ⟨rfl,o⟩;have d:bj x2 b 2 hash chain key n:=ab.kept H1 o nofun;obtain ⟨j,k,r,l,I⟩:=d.cells;unfold S at k r l;rw[ig]at j;have P:=ab.frozen d 4))
 all_goals
  have u:=Hq (ai (ai (aM (ak w none)) m) o);have v:=Hq d;clear m o H1 d f g i q j k r l;go_wp2;go_ret2;exact ⟨rfl,ab.set v.out 4 (.int .u64 ((n:Int)+1)),aw (eo u.out) 4 _⟩
def abk w (b:Nat) hash chain key text a (n:Nat)(h:bj w b 1 hash chain key n)(c:key.length=32)(R:n<18446744073709551000)
 (C:∀W:World,Calls prog 313 #[.agg #[],S key,S (cF 1 n),S hash,S text] W (Grown (.tuple #[S a, .int .i64 0]) W)):
 Calls prog 286 #[.pointer (some ⟨b,0,none⟩),S text, .func (.method "souterrain/noise.open") #[.iface 356 (.agg #[])] #[]] w (λe s=>e= .returned (.tuple #[S a, .int .i64 0])/\bj s b 1 hash chain key (n+1)/\w.grownBy s (some b)):=by
 obtain ⟨c0,c1,x,y,z⟩:=h.cells;rw[ie]at c0;have J:=ab.frozen h 4;have t:=λW:World=>zM W n pm;have ne:=xU c;have U:key.isEmpty=false:=by rw[ou];intro e;rw[e]at c;simp at c
 have a0:key≠[]:=by intro e;rw[e]at c;simp at c
 have w1:IntKind.u64.wrap ((n:Int)+1)=(n:Int)+1:=dE _ pm;have H:=Hq h;generalize cF 1 n=O at*;clear x h c;unfold S at*;go_enter func286,ntmps286;go_wp2_with fail;go_region_held3 (λW=>W.cell? ⟨b,0,none⟩=some (.iface 356 (.agg #[]))/\W.cell? ⟨b,1,none⟩=some (.string ⟨hash.toArray⟩)/\W.cell? ⟨b,3,none⟩=some (.string ⟨key.toArray⟩)/\W.cell? ⟨b,4,none⟩=some (.int .u64 n)) (first|exact ⟨c0,c1,y,z⟩|exact ⟨f,g,i,q⟩|exact ⟨j,k,l,I⟩) (first
  |(go_at_call 312;(with_reducible refine (t _).mono ?_);rintro e x1 ⟨rfl,m⟩;have H1:bj x1 b 1 hash chain key n:=ab.kept (ab.drew H.out) m nofun;obtain ⟨f,g,p,i,q⟩:=H1.cells;unfold S at g p i;rw[ie]at f;clear p)
  |(go_at_call 313;(with_reducible refine (C _).mono ?_);rintro e x2 ⟨rfl,o⟩;have d:bj x2 b 1 hash chain key n:=ab.kept H1 o nofun;obtain ⟨j,k,r,l,I⟩:=d.cells;unfold S at k r l;rw[ie]at j;have P:=ab.frozen d 4))
 all_goals
  have u:=Hq (ai (ai (aM (ak w none)) m) o);have v:=Hq d;clear m o H1 d f g i q j k r l;go_wp2;go_ret2;exact ⟨rfl,ab.set v.out 4 (.int .u64 ((n:Int)+1)),aw (eo u.out) 4 _⟩
def abj w (b:Nat) hash chain key text a (n:Nat)(c:Int)(U:(c==0)=false)(h:bj w b 1 hash chain key n)(d:key.length=32)(hn:n<18446744073709551000)
 (C:∀W:World,Calls prog 313 #[.agg #[],S key,S (cF 1 n),S hash,S text] W (Grown (.tuple #[S a, .int .i64 c]) W)):
 Calls prog 286 #[.pointer (some ⟨b,0,none⟩),S text, .func (.method "souterrain/noise.open") #[.iface 356 (.agg #[])] #[]] w (λe I=>e= .returned (.tuple #[S a, .int .i64 c])/\w.grownBy I none):=by
 obtain ⟨c0,c1,v,x,y⟩:=h.cells;rw[ie]at c0;have P:=ab.frozen h 4;have t:=λW:World=>zM W n pm;have ne:=xU d;have a0:key.isEmpty=false:=by rw[ou];intro e;rw[e]at d;simp at d
 have a1:key≠[]:=by intro e;rw[e]at d;simp at d
 have w1:IntKind.u64.wrap ((n:Int)+1)=(n:Int)+1:=dE _ pm;have H:=Hq h;generalize cF 1 n=O at*;clear v h d;unfold S at*;go_enter func286,ntmps286;go_wp2_with fail;go_region_held3 (λW=>W.cell? ⟨b,0,none⟩=some (.iface 356 (.agg #[]))/\W.cell? ⟨b,1,none⟩=some (.string ⟨hash.toArray⟩)/\W.cell? ⟨b,3,none⟩=some (.string ⟨key.toArray⟩)/\W.cell? ⟨b,4,none⟩=some (.int .u64 n)) (first|exact ⟨c0,c1,x,y⟩|exact ⟨g,i,j,r⟩|exact ⟨k,l,m,z⟩) (first
  |(go_at_call 312;(with_reducible refine (t _).mono ?_);rintro e x1 ⟨rfl,o⟩;have H1:bj x1 b 1 hash chain key n:=ab.kept (ab.drew H.out) o nofun;obtain ⟨g,i,q,j,r⟩:=H1.cells;unfold S at i q j;rw[ie]at g;clear q)
  |(go_at_call 313;(with_reducible refine (C _).mono ?_);rintro e x2 ⟨rfl,p⟩;have f:bj x2 b 1 hash chain key n:=ab.kept H1 p nofun;obtain ⟨k,l,s,m,z⟩:=f.cells;unfold S at l s m;rw[ie]at k;have R:=ab.frozen f 4))
 all_goals
  have u:=Hq (ai (ai (aM (ak w none)) o) p);have J:=Hq f;clear o p H1 f g i j r k l s m;go_wp2;go_ret2;exact ⟨rfl,u.out⟩
def abm w (b:Nat) hash chain key text a (n:Nat)(h:bj w b 2 hash chain key n)(c:key.length=32)(R:n<18446744073709551000)
 (C:∀W:World,Calls prog 317 #[.agg #[],S key,S (cF 2 n),S hash,S text] W (Grown (.tuple #[S a, .int .i64 0]) W)):
 Calls prog 286 #[.pointer (some ⟨b,0,none⟩),S text, .func (.method "souterrain/noise.open") #[.iface 357 (.agg #[])] #[]] w (λe s=>e= .returned (.tuple #[S a, .int .i64 0])/\bj s b 2 hash chain key (n+1)/\w.grownBy s (some b)):=by
 obtain ⟨c0,c1,x,y,z⟩:=h.cells;rw[ig]at c0;have J:=ab.frozen h 4;have t:=λW:World=>zQ W n pm;have ne:=xU c;have U:key.isEmpty=false:=by rw[ou];intro e;rw[e]at c;simp at c
 have a0:key≠[]:=by intro e;rw[e]at c;simp at c
 have w1:IntKind.u64.wrap ((n:Int)+1)=(n:Int)+1:=dE _ pm;have H:=Hq h;generalize cF 2 n=O at*;clear x h c;unfold S at*;go_enter func286,ntmps286;go_wp2_with fail;go_region_held3 (λW=>W.cell? ⟨b,0,none⟩=some (.iface 357 (.agg #[]))/\W.cell? ⟨b,1,none⟩=some (.string ⟨hash.toArray⟩)/\W.cell? ⟨b,3,none⟩=some (.string ⟨key.toArray⟩)/\W.cell? ⟨b,4,none⟩=some (.int .u64 n)) (first|exact ⟨c0,c1,y,z⟩|exact ⟨f,g,i,q⟩|exact ⟨j,k,l,I⟩) (first
  |(go_at_call 316;(with_reducible refine (t _).mono ?_);rintro e x1 ⟨rfl,m⟩;have H1:bj x1 b 2 hash chain key n:=ab.kept (ab.drew H.out) m nofun;obtain ⟨f,g,p,i,q⟩:=H1.cells;unfold S at g p i;rw[ig]at f;clear p)
  |(go_at_call 317;(with_reducible refine (C _).mono ?_);rintro e x2 ⟨rfl,o⟩;have d:bj x2 b 2 hash chain key n:=ab.kept H1 o nofun;obtain ⟨j,k,r,l,I⟩:=d.cells;unfold S at k r l;rw[ig]at j;have P:=ab.frozen d 4))
 all_goals
  have u:=Hq (ai (ai (aM (ak w none)) m) o);have v:=Hq d;clear m o H1 d f g i q j k r l;go_wp2;go_ret2;exact ⟨rfl,ab.set v.out 4 (.int .u64 ((n:Int)+1)),aw (eo u.out) 4 _⟩
def abl w (b:Nat) hash chain key text a (n:Nat)(c:Int)(U:(c==0)=false)(h:bj w b 2 hash chain key n)(d:key.length=32)(hn:n<18446744073709551000)
 (C:∀W:World,Calls prog 317 #[.agg #[],S key,S (cF 2 n),S hash,S text] W (Grown (.tuple #[S a, .int .i64 c]) W)):
 Calls prog 286 #[.pointer (some ⟨b,0,none⟩),S text, .func (.method "souterrain/noise.open") #[.iface 357 (.agg #[])] #[]] w (λe I=>e= .returned (.tuple #[S a, .int .i64 c])/\w.grownBy I none):=by
 obtain ⟨c0,c1,v,x,y⟩:=h.cells;rw[ig]at c0;have P:=ab.frozen h 4;have t:=λW:World=>zQ W n pm;have ne:=xU d;have a0:key.isEmpty=false:=by rw[ou];intro e;rw[e]at d;simp at d
 have a1:key≠[]:=by intro e;rw[e]at d;simp at d
 have w1:IntKind.u64.wrap ((n:Int)+1)=(n:Int)+1:=dE _ pm;have H:=Hq h;generalize cF 2 n=O at*;clear v h d;unfold S at*;go_enter func286,ntmps286;go_wp2_with fail;go_region_held3 (λW=>W.cell? ⟨b,0,none⟩=some (.iface 357 (.agg #[]))/\W.cell? ⟨b,1,none⟩=some (.string ⟨hash.toArray⟩)/\W.cell? ⟨b,3,none⟩=some (.string ⟨key.toArray⟩)/\W.cell? ⟨b,4,none⟩=some (.int .u64 n)) (first|exact ⟨c0,c1,x,y⟩|exact ⟨g,i,j,r⟩|exact ⟨k,l,m,z⟩) (first
  |(go_at_call 316;(with_reducible refine (t _).mono ?_);rintro e x1 ⟨rfl,o⟩;have H1:bj x1 b 2 hash chain key n:=ab.kept (ab.drew H.out) o nofun;obtain ⟨g,i,q,j,r⟩:=H1.cells;unfold S at i q j;rw[ig]at g;clear q)
  |(go_at_call 317;(with_reducible refine (C _).mono ?_);rintro e x2 ⟨rfl,p⟩;have f:bj x2 b 2 hash chain key n:=ab.kept H1 p nofun;obtain ⟨k,l,s,m,z⟩:=f.cells;unfold S at l s m;rw[ig]at k;have R:=ab.frozen f 4))
 all_goals
  have u:=Hq (ai (ai (aM (ak w none)) o) p);have J:=Hq f;clear o p H1 f g i j r k l s m;go_wp2;go_ret2;exact ⟨rfl,u.out⟩
end
end Go.Proofs.YtmomfbkpniblgaaGreatDoor
