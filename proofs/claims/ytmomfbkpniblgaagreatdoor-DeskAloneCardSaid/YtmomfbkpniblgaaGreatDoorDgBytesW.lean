/- An append of one byte, the world as it is. -/
import Derived.Test.YtmomfbkpniblgaaGreatDoorDgBytes
namespace Go.Proofs.YtmomfbkpniblgaaGreatDoor
open Go.RowKit
set_option linter.unusedVariables false

theorem append_byteW {W : World} {ops : Array Oper} {rest : List Oper} {o : Oper} {a : Act} {Q : Exit → Act → World → Prop} (hgd : o.guard = none) (s x : Operand)
    (ho : o.op = .call { callee := .builtin .append, args := #[s, x], argTypes := #[83, 83] })
    (base : Nat) (v : Value) (l : List UInt8) (hs : a.eval s = v) (hown : brow W base v l) (c : UInt8) (u : Value) (hu : u = bcell c) (B : Nat)
    (hx : a.eval x = .slice (some ⟨B, 0, none⟩) 1 1) (hblk : W.heap[B]? = some (.cells #[u] 5 (0, 0))) (hroom : l.length + 1 ≤ 140737488355328) (hbase : base ≤ W.heap.size)
    (h : ∀ v' w', brow w' base v' (l ++ [c]) → W.grownBy w' v.ownBlock → wpList Tryz.prog ops Q rest (a.put o.dst v') w') : wpList Tryz.prog ops Q (o :: rest) a W := by
  subst hu
  obtain ⟨i0, hi, hz0, hz1, hz2⟩ := info_parts info_u8
  refine wpList_append_own _ hgd s x 83 ho base 5 i0 (.int .u8 0) 1 1 Tryz.underlying83 hi hz0 hz1 hz2 rfl (by omega) v l.length (l.map bcell) hs hown ⟨B, 0, none⟩ 1 1 [bcell c] hx rfl ?_ (by simp [oneCell_bcell]) (by unfold maxLen; omega) (by omega) hbase ?_
  · intro j u hj
    have e : (⟨B, 0, none⟩ : Addr).add j = ⟨B, j, none⟩ := by unfold Addr.add; split <;> simp_all
    rw [e, obj_cell hblk]
    match j, hj with
    | 0, hj => exact hj
  · intro v' w' h1 h2 _
    refine h v' w' ?_ h2
    unfold brow
    rw [List.length_append, List.map_append]
    exact h1

end Go.Proofs.YtmomfbkpniblgaaGreatDoor
