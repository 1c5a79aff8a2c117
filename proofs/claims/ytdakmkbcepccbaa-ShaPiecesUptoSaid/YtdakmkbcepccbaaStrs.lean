/- Slices of strings that come in. -/
import Derived.Test.YtdakmkbcepccbaaBytes
namespace Go.Proofs.Ytdakmkbcepccbaa
open Go.RowKit
set_option linter.unusedVariables false

/-- These strings lie in a row. -/
def StrsAt (w : World) (a : Option Addr) (ss : List (List UInt8)) : Prop := ∀ i (h : i < ss.length), ∃ x, a = some x ∧ w.cell? (x.add i) = some (S ss[i])

theorem StrsAt.kept {w w' : World} {r : Option Nat} {a : Option Addr} {ss : List (List UInt8)} (h : StrsAt w a ss) (g : w.grownBy w' r) (hr : ∀ x, a = some x → some x.block ≠ r) : StrsAt w' a ss := by
  intro i hi
  obtain ⟨x, hx, hc⟩ := h i hi
  refine ⟨x, hx, g.cell hc ?_⟩
  have : (x.add i).block = x.block := by unfold Addr.add; split <;> rfl
  rw [this]; exact hr x hx
theorem StrsAt.keptN {w w' : World} {a : Option Addr} {ss : List (List UInt8)} (h : StrsAt w a ss) (g : w.grownBy w' none) : StrsAt w' a ss := h.kept g (by simp)

/-- A slice of strings, which hold so many letters together at the most. -/
def IsStrs (w : World) (a : Option Addr) (len cap bound : Nat) : Prop := ∃ ss : List (List UInt8), ss.length = len ∧ len ≤ cap ∧ cap ≤ maxLen ∧ ss.flatten.length + ss.length ≤ bound ∧ StrsAt w a ss

theorem flat_succ (ss : List (List UInt8)) (k : Nat) (h : k < ss.length) : (ss.take (k + 1)).flatten = (ss.take k).flatten ++ ss[k] := by
  rw [List.take_succ_eq_append_getElem h, List.flatten_append]
  simp
theorem flat_le (ss : List (List UInt8)) (k : Nat) : (ss.take k).flatten.length ≤ ss.flatten.length := by
  have h : ss.flatten = (ss.take k).flatten ++ (ss.drop k).flatten := by rw [← List.flatten_append, List.take_append_drop]
  rw [h, List.length_append]
  omega
theorem flat_at (ss : List (List UInt8)) (k : Nat) (h : k < ss.length) : (ss.take k).flatten.length + ss[k].length ≤ ss.flatten.length := by
  have h1 := flat_le ss (k + 1)
  rw [flat_succ ss k h, List.length_append] at h1
  exact h1

end Go.Proofs.Ytdakmkbcepccbaa
