/- Bytes: a slice of bytes that the call made, and strings, as lists of bytes. -/
import Derived.Test.YtejjlmdpejdajaaGrow
import Derived.Laws.BitsAllLaws
import Derived.Laws.BytesArg
namespace Go.Proofs.Ytejjlmdpejdajaa
open Go.RowKit
set_option linter.unusedVariables false

/-- A byte in a cell. -/
def bcell (c : UInt8) : Value := .int .u8 (c.toNat : Int)

/-- The string of these bytes. -/
def S (l : List UInt8) : Value := .string ⟨l.toArray⟩

/-- A slice of bytes of the call's own, from block base on: these bytes. -/
def brow (w : World) (base : Nat) (v : Value) (l : List UInt8) : Prop := w.ownsRow base 5 1 v l.length (l.map bcell)

theorem brow_nil (w : World) (base : Nat) : brow w base (.slice none 0 0) [] := World.ownsRow_nil _ _ _ _

theorem brow.kept {w w' : World} {base : Nat} {v : Value} {l : List UInt8} {r : Option Nat} (h : brow w base v l) (g : w.grownBy w' r) (hr : v.ownBlock = none ∨ v.ownBlock ≠ r) : brow w' base v l := World.ownsRow.kept h g hr

theorem brow.keptb {w w' : World} {base : Nat} {v : Value} {l : List UInt8} (h : brow w base v l) (g : w.grownBy w' none) : brow w' base v l := World.ownsRow.kept h g (by cases v.ownBlock <;> simp)

theorem info_u8 : (Try.prog.info? 5).map (fun i => (i.zero, i.size, i.bytes)) = some (some (.int .u8 0), 1, 1) := by kernel_rfl

theorem oneCell_bcell (c : UInt8) : (bcell c).oneCell' = true := rfl

theorem u8_lt (c : UInt8) : c.toNat < 256 := c.toNat_lt

theorem bcell_of (n : Nat) : Value.int .u8 ((n % 256 : Nat) : Int) = bcell (UInt8.ofNat n) := by
  unfold bcell
  rw [UInt8.toNat_ofNat']

/-- 'b = append(b, c)' with one byte. -/
theorem append_byte {w : World} {ops : Array Oper} {rest : List Oper} {o : Oper} {a : Act} {Q : Exit → Act → World → Prop} (hgd : o.guard = none) (s x : Operand)
    (ho : o.op = .call { callee := .builtin .append, args := #[s, x], argTypes := #[73, 73] })
    (base : Nat) (v : Value) (l : List UInt8) (hs : a.eval s = v) (hown : brow w base v l) (c : UInt8) (u : Value) (hu : u = bcell c)
    (hx : a.eval x = .slice (some ⟨w.heap.size, 0, none⟩) 1 1) (hroom : l.length + 1 ≤ 140737488355328) (hbase : base ≤ w.heap.size)
    (h : ∀ v' w', brow w' base v' (l ++ [c]) → w.grownBy w' v.ownBlock → wpList Try.prog ops Q rest (a.put o.dst v') w') : wpList Try.prog ops Q (o :: rest) a (w.alloc (.cells #[u] 5)) := by
  subst hu
  refine append_one hgd s x 73 ho base 5 (.int .u8 0) 1 Try.underlying73 info_u8 rfl v l.length (l.map bcell) hs hown (bcell c) rfl hx (by omega) (by omega) hbase ?_
  intro v' w' h1 h2
  refine h v' w' ?_ h2
  unfold brow
  rw [List.length_append, List.map_append]
  exact h1

theorem strOfNums_list (l : List UInt8) : strOfNums (l.map fun c => (c.toNat : Int)) = ⟨l.toArray⟩ := by
  unfold strOfNums
  rw [List.map_map]
  congr 1
  congr 1
  have : ((fun n : Int => UInt8.ofNat n.toNat) ∘ fun c : UInt8 => (c.toNat : Int)) = id := by
    funext c
    simp
  rw [this, List.map_id]

/-- 'string(b)' -/
theorem conv_brow {w : World} {base : Nat} {v : Value} {l : List UInt8} (h : brow w base v l) : (convert 73 9 v).run Try.prog w = .ok (S l) w := by
  unfold brow at h
  rcases h.2 with ⟨rfl, h0⟩ | ⟨g, cap, cur, rfl, hb, hg, hn, hc, hs, ht⟩
  · obtain rfl := List.eq_nil_of_length_eq_zero h0
    exact run_convert_bytes_nil w 73 5 Try.underlying73 Try.underlying5 0 0 9 Try.underlying9
  · have hcell : ∀ i, i < l.length → w.cell? ⟨g, 0 + i, none⟩ = some (.int .u8 ((l.map fun c => (c.toNat : Int)).getD i 0)) := by
      intro i hi
      have e1 : (l.map bcell)[i]? = some (bcell l[i]) := by simp [List.getElem?_eq_getElem hi]
      have e2 := h.cells (g := g) rfl i _ e1
      have e3 : (⟨g, 0, none⟩ : Addr).add i = ⟨g, 0 + i, none⟩ := by unfold Addr.add; split <;> simp_all
      rw [e3] at e2
      rw [e2]
      simp [bcell, List.getD, List.getElem?_eq_getElem hi]
    have := run_convert_bytes_arg w 73 5 Try.underlying73 Try.underlying5 g 0 l.length cap (l.map fun c => (c.toNat : Int)) (by simp) hcell 9 Try.underlying9
    rw [strOfNums_list] at this
    exact this

theorem brow.drewN {w : World} {base : Nat} {v : Value} {l : List UInt8} (h : brow w base v l) (n : Nat) : brow (w.drewN n) base v l := h
theorem brow.drew {w : World} {base : Nat} {v : Value} {l : List UInt8} (h : brow w base v l) : brow w.drew base v l := h

end Go.Proofs.Ytejjlmdpejdajaa
