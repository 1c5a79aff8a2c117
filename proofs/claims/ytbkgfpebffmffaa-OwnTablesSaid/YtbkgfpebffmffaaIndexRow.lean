/- A cell of an array by value. -/
import Derived.Test.YtbkgfpebffmffaaBase
import Derived.ChangeKeysEq
namespace Go.Proofs.Ytbkgfpebffmffaa
open Go.RowKit
set_option linter.unusedVariables false

theorem size_of_info {P : Program} {e : TypeId} {n : Nat} (h : (P.info? e).map (·.size) = some n) (w : World) : (Go.sizeOf e).run P w = .ok n w := by
  cases hq : P.info? e with
  | none => rw [hq] at h; simp at h
  | some i =>
    rw [hq] at h
    have hi : i.size = n := by simpa using h
    simp [sizeOf, typeInfo, hq, hi]

theorem run_index_one {P : Program} (w : World) (t e : TypeId) (n : Nat) (cs : Array Value) (i : Nat) (v : Value) (h : P.underlying t = some (.array n e)) (hz : (P.info? e).map (·.size) = some 1) (he : P.plainKey e = true) (hi : i < n) (hv : cs[i]? = some v) :
    (Instr.index t (.agg cs) (.int .i64 (i : Int))).run P w = .ok v w := by
  have h1 : (0 : Int) ≤ (i : Int) ∧ (i : Int) < (n : Int) := by omega
  have h2 := size_of_info hz w
  have h3 := run_part_plain (P := P) (w := w) he hv
  simp only [part, Sem.run_bind] at h3
  simp [Instr.index, run_underlying h, asIntOf, hi, h2, part, go_sem]
  simpa [go_sem] using h3

end Go.Proofs.Ytbkgfpebffmffaa
