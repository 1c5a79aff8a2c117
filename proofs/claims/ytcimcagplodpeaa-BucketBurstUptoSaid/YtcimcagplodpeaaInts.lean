/- A slice of numbers that came in. -/
import Derived.Test.YtcimcagplodpeaaOpen
namespace Go.Proofs.Ytcimcagplodpeaa
open Go.RowKit
set_option linter.unusedVariables false

/-- The number in a cell of a slice of numbers. -/
theorem recs_int {w : World} {x : Addr} {len : Nat} {k : IntKind} (h : ∀ i, i < len → ∀ (j : Nat) (q : Lk), [Lk.int k][j]? = some q → ∃ v, w.cell? (x.add (i * [Lk.int k].length + j)) = some v ∧ LeafOk q v) :
    ∃ f : Nat → Int, ∀ i, i < len → w.cell? (x.add i) = some (.int k (f i)) ∧ (Lit.int k (f i)).wf = true := by
  have h' : ∀ i, i < len → ∃ n : Int, w.cell? (x.add i) = some (.int k n) ∧ (Lit.int k n).wf = true := by
    intro i hi
    obtain ⟨v, hv, n, rfl, hw⟩ := h i hi 0 _ rfl
    exact ⟨n, by simpa using hv, hw⟩
  exact ⟨fun i => if hi : i < len then Classical.choose (h' i hi) else 0, fun i hi => by simp only [dif_pos hi]; exact Classical.choose_spec (h' i hi)⟩

/-- A slice of numbers that came in, or that was made: what is read of it. -/
def IntsAt (k : IntKind) (w : World) (a : Option Addr) (len : Nat) (f : Nat → Int) : Prop :=
  ∀ i, i < len → ∃ x, a = some x ∧ w.cell? (x.add i) = some (.int k (f i)) ∧ (Lit.int k (f i)).wf = true

theorem ints_of {k : IntKind} {w : World} {a : Option Addr} {len cap : Nat} (h : IsRecs [.int k] w a len cap) : (len ≤ cap ∧ cap ≤ maxLen) ∧ ∃ f, IntsAt k w a len f := by
  rcases h with ⟨rfl, rfl, rfl⟩ | ⟨x, rfl, h1, h2, h3⟩
  · exact ⟨⟨Nat.le_refl _, Nat.zero_le _⟩, fun _ => 0, fun i hi => absurd hi (Nat.not_lt_zero _)⟩
  · obtain ⟨f, hf⟩ := recs_int h3
    exact ⟨⟨h1, h2⟩, f, fun i hi => ⟨x, rfl, hf i hi⟩⟩

theorem IntsAt.kept {k : IntKind} {w w' : World} {r : Option Nat} {a : Option Addr} {len : Nat} {f : Nat → Int} (h : IntsAt k w a len f) (g : w.grownBy w' r) (hr : ∀ x, a = some x → some x.block ≠ r) : IntsAt k w' a len f := by
  intro i hi
  obtain ⟨x, hx, hc, hw⟩ := h i hi
  refine ⟨x, hx, g.cell hc ?_, hw⟩
  have : (x.add i).block = x.block := by unfold Addr.add; split <;> rfl
  rw [this]; exact hr x hx

/-- The block of a slice that came in is an old one. -/
theorem IntsAt.old {k : IntKind} {w : World} {x : Addr} {len : Nat} {f : Nat → Int} (h : IntsAt k w (some x) len f) (i : Nat) (hi : i < len) : x.block < w.heap.size := by
  obtain ⟨y, hy, hc, _⟩ := h i hi
  cases hy
  have := World.block_lt_of_cell? w _ hc
  have e : (x.add i).block = x.block := by unfold Addr.add; split <;> rfl
  omega

end Go.Proofs.Ytcimcagplodpeaa
