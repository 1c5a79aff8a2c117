/-
  THE STATEMENT 'TopRefusedUptoSaid': for every input the function answers true and leaves its arguments as they were, where they hold together at most 1048576 values and letters. The row's step around the walk of YtmomfbkpniblgaaGreatDoorTopRefusedLaw.
-/
import Derived.Test.YtmomfbkpniblgaaGreatDoorYj02
import Derived.Test.YtmomfbkpniblgaaGreatDoorYjTopRefusedLaw
import Derived.JoinedCond
import Derived.Test.YtmomfbkpniblgaaGreatDoorBulk
import Derived.LaidMore
import Derived.OpenShut
import Derived.SevenTiedAt
import Derived.Deep.DeepHandedRow
import Derived.Deep.DeepWitnessRowRef
import Derived.Test.YtmomfbkpniblgaaGreatDoorCards
import Derived.Test.YtmomfbkpniblgaaGreatDoorTie
namespace Go.Proofs.YtmomfbkpniblgaaGreatDoor.lTopRefused
open Go.ChangeShapes Go.WideShapes Go.ChangeAt Go.RowKit
open Go.ChangeMaps (open_string shut_string)
set_option linter.all false
theorem own:ownKnob Tryz.prog.godebug=none:=by kernel_rfl
theorem laidOut:laidOutB Tryz.prog=true:=by kernel_rfl
theorem leaves3:Leaves Tryz.prog 3 [.int .i64]:=leaves_int Tryz.underlying3
theorem leaves33:Leaves Tryz.prog 33 [.int .u32]:=leaves_int Tryz.underlying33
theorem leaves9:Leaves Tryz.prog 9 [.str]:=leaves_str Tryz.underlying9
theorem leaves35:Leaves Tryz.prog 35 [.int .i64, .int .i64, .int .i64, .int .i64, .int .u32, .int .u32, .str]:=by
 refine leaves_struct Tryz.underlying35 fun j k h=>?_
 match j,k,h with
 |0,k,h=>exact ⟨0,_,_,0,rfl,leaves3,rfl,h⟩
 |1,k,h=>exact ⟨1,_,_,0,rfl,leaves3,rfl,h⟩
 |2,k,h=>exact ⟨2,_,_,0,rfl,leaves3,rfl,h⟩
 |3,k,h=>exact ⟨3,_,_,0,rfl,leaves3,rfl,h⟩
 |4,k,h=>exact ⟨4,_,_,0,rfl,leaves33,rfl,h⟩
 |5,k,h=>exact ⟨5,_,_,0,rfl,leaves33,rfl,h⟩
 |6,k,h=>exact ⟨6,_,_,0,rfl,leaves9,rfl,h⟩
 |_+7,k,h=>simp at h
theorem slice_upto{H:Type}{enc:TypeId×Value→H}{w:World}{base:Nat}{spare:Nat→Bool}{held:Bool}{t e:TypeId}{a:Option Addr}{len cap:Nat}{d:DataW H}{ps:List MemPlace}(ht:Tryz.prog.underlying t=some (.slice e))
 (h:DataW.Trod enc Tryz.prog w base spare held t (.slice a len cap) d ps) (hp:Rows.uptoBulk d≤1048576):len≤1048576:=by
 have e1:=Joins.sliceLen_Trod ht h
 cases d with
 |slice el sp=>have:=bulks.slice_le el sp;simp only[Joins.sliceLen]at e1;omega
 |_=>simp only[Joins.sliceLen]at e1;omega
set_option maxRecDepth 100000 in
theorem contract(H:Type)(enc:TypeId×Value→H)(W:World)(base:Nat)(args:Array Value)(ds gs:List (DataW H))(before:List MemPlace)
 (hval0:∀(j:Nat) t v,Tryz.f4.params[j]?=some t→args[j]?=some v→Value.okWide Tryz.prog W .any base t v)
 (hW:DataW.Whole enc Tryz.prog Tryz.f4.params.toList Rows.topRefusedSpec.vars false W args.toList ds gs before) (hk:Rows.uptoSmall H (ds++gs)=true):
 Calls Tryz.prog 4 args W fun e W'=>∃v,e= .returned v∧Rows.topRefusedSpec.post enc Tryz.prog Tryz.f4 false true false false W args v W':=by
 have hval:=hval0
 have hW':=hW
 obtain ⟨p,q,hA0,hV,rfl,hfz,hnd⟩:=hW
 have hA:DataW.TrodAll enc Tryz.prog W 0 (fun _=>true) true Tryz.f4.params.toList args.toList ds p:=hA0
 rw[Tryz.params4]at hA hval
 obtain ⟨v0,vs0,d0,ds0,p0,q0,hargs,rfl,rfl,h0,z0⟩:=trodAll_cons hA
 obtain ⟨v1,vs1,d1,ds1,p1,q1,rfl,rfl,rfl,h1,z1⟩:=trodAll_cons z0
 obtain ⟨v2,vs2,d2,ds2,p2,q2,rfl,rfl,rfl,h2,z2⟩:=trodAll_cons z1
 obtain ⟨rfl,rfl,rfl⟩:=trodAll_nil z2
 obtain rfl:args=#[v0,v1,v2]:=by cases args;simp_all
 obtain ⟨rfl,rfl⟩:=trodVars_none hV
 have part0:Rows.uptoBulk d0≤1048576:=by
  have h:Rows.uptoBulkAll _≤1048576:=of_decide_eq_true hk
  simp only[List.append_nil,List.cons_append,List.nil_append,Rows.uptoBulkAll]at h
  omega
 have part1:Rows.uptoBulk d1≤1048576:=by
  have h:Rows.uptoBulkAll _≤1048576:=of_decide_eq_true hk
  simp only[List.append_nil,List.cons_append,List.nil_append,Rows.uptoBulkAll]at h
  omega
 have part2:Rows.uptoBulk d2≤1048576:=by
  have h:Rows.uptoBulkAll _≤1048576:=of_decide_eq_true hk
  simp only[List.append_nil,List.cons_append,List.nil_append,Rows.uptoBulkAll]at h
  omega
 have k0:=h0
 have lt0:∀x∈p0,x.block<W.heap.size:=by obtain ⟨m,hm⟩:=k0;exact DataW.trod_lt m _ _ _ hm
 obtain ⟨a0,len0,cap0,rfl⟩:=okWide_slice Tryz.underlying28 (hval 0 28 v0 rfl rfl)
 have r0:IsRecs [.int .i64] W a0 len0 cap0:=recs_of Tryz.underlying28 leaves3 (by kernel_rfl) h0
 have k1:=h1
 have lt1:∀x∈p1,x.block<W.heap.size:=by obtain ⟨m,hm⟩:=k1;exact DataW.trod_lt m _ _ _ hm
 obtain ⟨s1,rfl,rfl,rfl,w1⟩:=open_string Tryz.underlying9 (hval 1 9 v1 rfl rfl) h1
 have k2:=h2
 have lt2:∀x∈p2,x.block<W.heap.size:=by obtain ⟨m,hm⟩:=k2;exact DataW.trod_lt m _ _ _ hm
 obtain ⟨a2,len2,cap2,rfl⟩:=okWide_slice Tryz.underlying29 (hval 2 29 v2 rfl rfl)
 have r2:IsRecs [.int .i64, .int .i64, .int .i64, .int .i64, .int .u32, .int .u32, .str] W a2 len2 cap2:=recs_of Tryz.underlying29 leaves35 (by kernel_rfl) h2
 clear hA0 hval0
 refine (walk_TopRefused a0 len0 cap0 s1 a2 len2 cap2 w1 W r0 r2 (slice_upto Tryz.underlying28 h0 part0) (by have h:=part1;simp only[Rows.uptoBulk]at h;have e:s1.data.toList.length=s1.size:=Array.length_toList;omega) (slice_upto Tryz.underlying29 h2 part2)).mono fun e W' ⟨he,bel⟩=>?_
 subst he
 exact ⟨_,rfl,_,_,_,[],_,[],hW',trodAll_mk1 (shut_bool Tryz.underlying4 _),(trodAll_cons_mk (Below.trod laidOut (by kernel_rfl) (of_decide_eq_true (by kernel_rfl)) k0 bel lt0) (trodAll_cons_mk (Below.trod laidOut (by kernel_rfl) (of_decide_eq_true (by kernel_rfl)) k1 bel lt1) (trodAll_cons_mk (Below.trod laidOut (by kernel_rfl) (of_decide_eq_true (by kernel_rfl)) k2 bel lt2) trodAll_mk0))),rfl,bel.frame _,fun h=>by cases h⟩
set_option maxRecDepth 100000 in
noncomputable def laidWorld(os:Os):World:={World.doorLaid Tryz.prog 34 os with heap:=((World.doorLaid Tryz.prog 34 os).heap.modify 1 fun o=>match o with| .cells _ t fr=> .cells (Pinned.utf8FirstZ.map fun(n:Nat)=>Value.int .u8 (n:Int)).toArray t fr|o=>o)}
theorem laid_met(os:Os):laidMet Tryz.prog Rows.topRefusedUptoRow.laid ((laidWorld os).forCall (fun _ _=>0) ⟨#[],#[.slice none 0 0, .string .empty, .slice none 0 0],[]⟩).memory:=
 laidMet_of_run' 8 (by kernel_rfl) (by kernel_rfl)
theorem reads(os:Os){H:Type}(enc:TypeId×Value→H):∃places,DataW.whole enc Tryz.prog ((laidWorld os).forCall (fun _ _=>0) ⟨#[],#[.slice none 0 0, .string .empty, .slice none 0 0],[]⟩).memory Tryz.f4.params.toList Rows.topRefusedSpec.vars false (#[.slice none 0 0, .string .empty, .slice none 0 0]:Array Value).toList 8=some ([.nil, .lit (.string []), .nil],[],places):=
 ⟨[],by kernel_rfl⟩
set_option maxRecDepth 100000 in
theorem lifted(os:Os)(started:os.Started)(H:Type)(enc:TypeId×Value→H)(F:Stop.Interp):
 ReturnsInHanded {} Tryz.checked os 4 .any ((Rows.OpenSpec.upto Rows.topRefusedSpec).preRow enc Tryz.prog Tryz.f4 Rows.topRefusedUptoRow.domain false Rows.topRefusedUptoRow.laid) (((Rows.OpenSpec.upto Rows.topRefusedSpec).at F).post enc Tryz.prog Tryz.f4 false true false false):=by
 obtain ⟨places,hx⟩:=reads os enc
 refine returnsInHanded_of_row (C:=Tryz.checked) (s:=Rows.OpenSpec.upto Rows.topRefusedSpec) own started (by kernel_rfl) Tryz.func4
  (witness_row_atRef (enc:=enc) (C:=Tryz.checked) false (laidWorld os) #[.slice none 0 0, .string .empty, .slice none 0 0] rfl (by kernel_rfl) (by kernel_rfl) (by kernel_rfl)
   (OpenSpec.preRow_of_cond 8 hx (by kernel_rfl) (fun k hk=>by cases hk;kernel_rfl) (by kernel_rfl) (laid_met os))) ?_
 intro W base args ds gs before hval hW _ hk _ _ _ _
 exact contract H enc W base args ds gs before hval hW (hk _ rfl)
theorem over:Rows.TopRefusedUptoSaid:=
 OpenClaim.holds_of_cond 4 Tryz.f4 rfl rfl rfl rfl rfl rfl rfl ⟨rfl,rfl,rfl,rfl,rfl⟩ rfl rfl rfl rfl rfl (by kernel_rfl) Tryz.func4 (by kernel_rfl)
  (of_decide_eq_true (by kernel_rfl)) (by unfold Func.isWrapper;first|(rw[if_pos (by decide+kernel)];kernel_rfl)|(rw[if_neg (by decide+kernel)];exact ⟨rfl,rfl⟩))
  (fun os started H enc _ F=>by rw[OpenClaim.pre_eq_preRow];exact lifted os started H enc F)
theorem proved:Rows.TopRefusedUptoCardSaid:=
 Claim7.holds_tied_plain_at .later [] [.data, .pinned] true (true, "c592bd20986d7c10b840b6046baffa6385d1cc5b9af8013f92c9268607fd8461") true
  over (fun _ h=>by cases h) (by kernel_rfl) (fun _ h=>by cases h) topRefusedUpto_row_tie rfl ⟨rfl,rfl⟩ (by kernel_rfl) rfl
  (fun f fn hf hfn=>by
   obtain rfl:f=4:=Option.some.inj ((show Tryz.prog.funcNamed "souterrain/souterraintop.TopRefused" =some 4 by kernel_rfl).symm.trans hf)|>.symm
   obtain rfl:fn=Tryz.f4:=(Option.some.inj (Tryz.func4.symm.trans hfn)).symm
   exact ⟨by kernel_rfl,fun j t ht=>by
    rw[Tryz.params4]at ht
    have hm:t∈[28,9,29]:=by simpa using Array.mem_of_getElem? ht
    have hall:([28,9,29].all fun u=> !Tryz.prog.wantsStandIn u)=true:=by kernel_rfl
    exact (show Tryz.prog.wantsStandIn t=false by simpa using List.all_eq_true.1 hall t hm)⟩)
  (by kernel_rfl)
#print axioms proved
end Go.Proofs.YtmomfbkpniblgaaGreatDoor.lTopRefused
