/- A part of this claim's proof. -/
import Derived.Test.YtmomfbkpniblgaaGreatDoorYj42
set_option linter.all false
namespace Go.Proofs.YtmomfbkpniblgaaGreatDoor
open Go.Proofs.Tryz
section
open Go.RowKit Top
theorem walk_TopRefused (c:Option Addr)(b g:Nat)(a:ByteArray)(d:Option Addr)(len2 h:Nat)(p:a.size<=maxLen) w (l:IsRecs [.int .i64] w c b g)(m:IsRecs [.int .i64, .int .i64, .int .i64, .int .i64, .int .u32, .int .u32, .str] w d len2 h)(q:b<=1048576)(r:a.size<=1048576)(o:len2<=1048576):
 Calls prog 4 #[.slice c b g, .string a, .slice d len2 h] w λe n=>e= .returned (.bool true)/\Below w.heap.size w n:=by
 obtain ⟨_,f,i⟩:=Za l;obtain ⟨_,k⟩:=Sa m;have e:(Value.string a)=S a.data.toList:=by unfold S;simp
 rw[e];refine ax (Wf w c b g f i a.data.toList d len2 h k o) λy j=>?_;exact ⟨rfl,ql j _ (bm _) pu⟩
end
end Go.Proofs.YtmomfbkpniblgaaGreatDoor
