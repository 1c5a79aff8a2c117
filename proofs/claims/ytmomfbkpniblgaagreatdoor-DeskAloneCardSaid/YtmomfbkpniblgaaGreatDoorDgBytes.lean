/- Bytes: a slice of bytes that the call made, and strings, as lists of bytes. -/
import Derived.Test.YtmomfbkpniblgaaGreatDoorDgGrow
import Derived.Laws.BitsAllLaws
import Derived.Laws.BytesArg
import Derived.Deep.RegionHeld3
import Derived.Deep.AppendLies
namespace Go.Proofs.YtmomfbkpniblgaaGreatDoor
open Go.RowKit
set_option linter.unusedVariables false

/-- A byte in a cell. -/
def bcell (c : UInt8) : Value := .int .u8 (c.toNat : Int)

/-- The string of these bytes. -/
def S (l : List UInt8) : Value := .string ⟨l.toArray⟩

/-- A slice of bytes of the call's own, from block base on: these bytes. -/
def brow (w : World) (base : Nat) (v : Value) (l : List UInt8) : Prop := w.ownsRow base 5 1 v l.length (l.map bcell)

theorem brow_nil (w : World) (base : Nat) : brow w base (.slice none 0 0) [] := World.ownsRow_nil _ _ _ _

theorem brow.kept {w w' : World} {base : Nat} {v : Value} {l : List UInt8} {r : Option Nat} (h : brow w base v l) (g : w.grownBy w' r) (hr : v.ownBlock = none ∨ v.ownBlock ≠ r) : brow w' base v l := World.ownsRow.kept h g hr

theorem brow.keptb {w w' : World} {base : Nat} {v : Value} {l : List UInt8} (h : brow w base v l) (g : w.grownBy w' none) : brow w' base v l := World.ownsRow.kept h g (by cases v.ownBlock <;> simp)

theorem info_u8 : (Tryz.prog.info? 5).map (fun i => (i.zero, i.size, i.bytes)) = some (some (.int .u8 0), 1, 1) := by kernel_rfl

theorem oneCell_bcell (c : UInt8) : (bcell c).oneCell' = true := rfl

theorem u8_lt (c : UInt8) : c.toNat < 256 := c.toNat_lt

theorem bcell_of (n : Nat) : Value.int .u8 ((n % 256 : Nat) : Int) = bcell (UInt8.ofNat n) := by
  unfold bcell
  rw [UInt8.toNat_ofNat']

/-- 'b = append(b, c)' with one byte. -/
theorem append_byte {w : World} {ops : Array Oper} {rest : List Oper} {o : Oper} {a : Act} {Q : Exit → Act → World → Prop} (hgd : o.guard = none) (s x : Operand)
    (ho : o.op = .call { callee := .builtin .append, args := #[s, x], argTypes := #[83, 83] })
    (base : Nat) (v : Value) (l : List UInt8) (hs : a.eval s = v) (hown : brow w base v l) (c : UInt8) (u : Value) (hu : u = bcell c)
    (hx : a.eval x = .slice (some ⟨w.heap.size, 0, none⟩) 1 1) (hroom : l.length + 1 ≤ 140737488355328) (hbase : base ≤ w.heap.size)
    (h : ∀ v' w', brow w' base v' (l ++ [c]) → w.grownBy w' v.ownBlock → wpList Tryz.prog ops Q rest (a.put o.dst v') w') : wpList Tryz.prog ops Q (o :: rest) a (w.alloc (.cells #[u] 5)) := by
  subst hu
  refine append_one hgd s x 83 ho base 5 (.int .u8 0) 1 Tryz.underlying83 info_u8 rfl v l.length (l.map bcell) hs hown (bcell c) rfl hx (by omega) (by omega) hbase ?_
  intro v' w' h1 h2
  refine h v' w' ?_ h2
  unfold brow
  rw [List.length_append, List.map_append]
  exact h1

theorem obj_new_drew (w : World) (o : Obj) : (w.alloc o).drew.heap[w.heap.size]? = some o := obj_new w o

theorem brow.alloc {w : World} {base : Nat} {v : Value} {l : List UInt8} (h : brow w base v l) (o : Obj) : brow (w.alloc o) base v l := World.ownsRow.alloc h o

/-- An append of bytes at a step of a region that draws its order. -/
theorem step_bytes {w : World} {ops : Array Oper} {o : Oper} {a : Act} {K : Act → World → Prop} {Q : Exit → Act → World → Prop} {E : Prop} (hgd : o.guard = none) (s x : Operand)
    (ho : o.op = .call { callee := .builtin .append, args := #[s, x], argTypes := #[83, 83] })
    (base : Nat) (v : Value) (l : List UInt8) (hs : a.eval s = v) (hown : brow w base v l) (B : Nat) (us : Array Value) (m c : Nat) (hx : a.eval x = .slice (some ⟨B, 0, none⟩) m c) (cs : List UInt8)
    (hblk : w.heap[B]? = some (.cells us 5 (0, 0))) (hus : us = (cs.map bcell).toArray) (hm : m = cs.length) (hm0 : 0 < cs.length) (hroom : l.length + cs.length ≤ 140737488355328) (hbase : base ≤ w.heap.size)
    (h : ∀ v' w', brow w' base v' (l ++ cs) → w.grownBy w' v.ownBlock → (∃ g cap, v' = .slice (some ⟨g, 0, none⟩) (l.length + cs.length) cap ∧ (v.ownBlock = some g ∨ g = w.heap.size)) → K (a.put o.dst v') w') :
    if Region.wanted o (yielded ops a.tmps) = true then Oper.wp Tryz.prog o a w K Q else E := by
  subst hus hm
  obtain ⟨i0, hi, hz0, hz1, hz2⟩ := info_parts info_u8
  refine step_append_lies w hgd s x 83 ho base 5 i0 (.int .u8 0) 1 1 Tryz.underlying83 hi hz0 hz1 hz2 rfl (by omega) v l.length (l.map bcell) hs hown ⟨B, 0, none⟩ cs.length c (cs.map bcell) hx (by simp) ?_ ?_ hm0 (by unfold maxLen; omega) (by omega) hbase w.heap.size rfl ?_
  · intro j u hu
    exact World.news_of_block hblk j u hu
  · intro u hu
    obtain ⟨b, _, rfl⟩ := List.mem_map.1 hu
    rfl
  · intro g cap w' h1 h2 h3 _
    refine h _ w' ?_ h2 ⟨g, cap, rfl, h3⟩
    unfold brow
    rw [List.length_append, List.map_append]
    exact h1

theorem append_byte2 {w : World} {ops : Array Oper} {rest : List Oper} {o : Oper} {a : Act} {Q : Exit → Act → World → Prop} (hgd : o.guard = none) (s x : Operand)
    (ho : o.op = .call { callee := .builtin .append, args := #[s, x], argTypes := #[83, 83] })
    (base : Nat) (v : Value) (l : List UInt8) (hs : a.eval s = v) (hown : brow w base v l) (c1 c2 : UInt8) (u1 u2 : Value) (hu1 : u1 = bcell c1) (hu2 : u2 = bcell c2)
    (hx : a.eval x = .slice (some ⟨w.heap.size, 0, none⟩) 2 2) (hroom : l.length + 2 ≤ 140737488355328) (hbase : base ≤ w.heap.size)
    (h : ∀ v' w', brow w' base v' (l ++ [c1, c2]) → w.grownBy w' v.ownBlock → wpList Tryz.prog ops Q rest (a.put o.dst v') w') : wpList Tryz.prog ops Q (o :: rest) a (w.alloc (.cells #[u1, u2] 5)) := by
  subst hu1 hu2
  refine append_two hgd s x 83 ho base 5 (.int .u8 0) 1 Tryz.underlying83 info_u8 rfl v l.length (l.map bcell) hs hown (bcell c1) (bcell c2) rfl rfl hx (by omega) (by omega) hbase ?_
  intro v' w' h1 h2
  refine h v' w' ?_ h2
  unfold brow
  rw [List.length_append, List.map_append]
  exact h1

theorem strOfNums_list (l : List UInt8) : strOfNums (l.map fun c => (c.toNat : Int)) = ⟨l.toArray⟩ := by
  unfold strOfNums
  rw [List.map_map]
  congr 1
  congr 1
  have : ((fun n : Int => UInt8.ofNat n.toNat) ∘ fun c : UInt8 => (c.toNat : Int)) = id := by
    funext c
    simp
  rw [this, List.map_id]

/-- 'string(b)' -/
theorem conv_brow {w : World} {base : Nat} {v : Value} {l : List UInt8} (h : brow w base v l) : (convert 83 9 v).run Tryz.prog w = .ok (S l) w := by
  unfold brow at h
  rcases h.2 with ⟨rfl, h0⟩ | ⟨g, cap, cur, rfl, hb, hg, hn, hc, hs, ht⟩
  · obtain rfl := List.eq_nil_of_length_eq_zero h0
    exact run_convert_bytes_nil w 83 5 Tryz.underlying83 Tryz.underlying5 0 0 9 Tryz.underlying9
  · have hcell : ∀ i, i < l.length → w.cell? ⟨g, 0 + i, none⟩ = some (.int .u8 ((l.map fun c => (c.toNat : Int)).getD i 0)) := by
      intro i hi
      have e1 : (l.map bcell)[i]? = some (bcell l[i]) := by simp [List.getElem?_eq_getElem hi]
      have e2 := h.cells (g := g) rfl i _ e1
      have e3 : (⟨g, 0, none⟩ : Addr).add i = ⟨g, 0 + i, none⟩ := by unfold Addr.add; split <;> simp_all
      rw [e3] at e2
      rw [e2]
      simp [bcell, List.getD, List.getElem?_eq_getElem hi]
    have := run_convert_bytes_arg w 83 5 Tryz.underlying83 Tryz.underlying5 g 0 l.length cap (l.map fun c => (c.toNat : Int)) (by simp) hcell 9 Tryz.underlying9
    rw [strOfNums_list] at this
    exact this

theorem brow.drewN {w : World} {base : Nat} {v : Value} {l : List UInt8} (h : brow w base v l) (n : Nat) : brow (w.drewN n) base v l := h
theorem brow.drew {w : World} {base : Nat} {v : Value} {l : List UInt8} (h : brow w base v l) : brow w.drew base v l := h

end Go.Proofs.YtmomfbkpniblgaaGreatDoor
