/- A set of numbers kept in a map[int]bool that the call made. -/
import Derived.Test.YtejjlmdpejdajaaBase
import Derived.Maps.OwnOps
import Derived.Maps.OwnSet
namespace Go.Proofs.Ytejjlmdpejdajaa
open Go.RowKit
open Go.Maps (Keyed int_keyed keyOf_int_mk)
set_option linter.unusedVariables false

theorem zero_bool (w : World) : (zeroValue 4).run Try.prog w = .ok (.bool false) w := by kernel_rfl
theorem int_law : Keyed Try.prog 3 := int_keyed Try.underlying3

/-- Block b is a map of at most n entries that holds true just at the numbers of 'seen' (and nothing, or false, at the others). -/
def SeenAt (w : World) (b n : Nat) (seen : Int → Bool) : Prop :=
  ∃ D : DataW Unit, w.ownsMap Try.prog 3 (plainElem Try.prog 4) b n D ∧ ∀ x, D.atKey (.int .i64 x) (.lit (.bool false)) = .lit (.bool (seen x))

theorem seen_made (w : World) : SeenAt (w.alloc (.map #[] 0)) w.heap.size 0 (fun _ => false) :=
  ⟨.map [], World.ownsMap_made w _ _ _, fun x => rfl⟩

theorem SeenAt.kept {w w' : World} {r : Option Nat} {b n : Nat} {seen : Int → Bool} (h : SeenAt w b n seen) (g : w.grownBy w' r) (hr : some b ≠ r) : SeenAt w' b n seen := by
  obtain ⟨D, h1, h2⟩ := h
  exact ⟨D, h1.kept g hr, h2⟩

theorem SeenAt.lt {w : World} {b n : Nat} {seen : Int → Bool} (h : SeenAt w b n seen) : b < w.heap.size := by
  obtain ⟨D, h1, h2⟩ := h
  exact h1.lt

theorem SeenAt.look {w : World} {b n : Nat} {seen : Int → Bool} (h : SeenAt w b n seen) {x : Int} (hx : (Lit.int .i64 x).wf = true) :
    (Instr.lookup 26 (.map (some b)) (.int .i64 x) false).run Try.prog w = .ok (.bool (seen x)) w := by
  obtain ⟨D, h1, h2⟩ := h
  obtain ⟨v, ps, hrun, hv⟩ := h1.lookup int_law Try.underlying26 (zero_bool w) (plainElem_bool Try.underlying4 false) (keyOf_int_mk Try.underlying3 hx)
  rw [h2] at hv
  unfold plainElem at hv
  rw [Try.underlying4] at hv
  cases v <;> simp at hv
  rw [hrun, hv.1]

theorem SeenAt.put {w : World} {b n : Nat} {seen : Int → Bool} (h : SeenAt w b n seen) {x : Int} (hx : (Lit.int .i64 x).wf = true) (hn : n < maxLen) :
    ∃ w', (Instr.mapUpdate 26 (.map (some b)) (.int .i64 x) (.bool true)).run Try.prog w = .ok () w' ∧ SeenAt w' b (n + 1) (fun y => seen y || decide (y = x)) ∧ w.grownBy w' (some b) := by
  obtain ⟨D, h1, h2⟩ := h
  obtain ⟨w', hrun, hown, hg⟩ := h1.update int_law Try.underlying26 hn (val := .bool true) (keyOf_int_mk Try.underlying3 hx) (plainElem_bool Try.underlying4 true)
  refine ⟨w', hrun, ⟨_, hown, fun y => ?_⟩, hg⟩
  by_cases hy : y = x
  · subst hy
    rw [Maps.atKey_put_same h1.isMap (by simp [WideAt.IsKeyLit])]
    simp
  · rw [Maps.atKey_put_other (by simpa using hy), h2]
    simp [hy]

end Go.Proofs.Ytejjlmdpejdajaa
