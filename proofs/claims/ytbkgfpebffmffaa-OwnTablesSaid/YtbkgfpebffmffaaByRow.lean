/- '[]byte(s)': a row of bytes that the call has made of a string. -/
import Derived.Test.YtbkgfpebffmffaaBytes
import Derived.Laws.IdiomStrings
namespace Go.Proofs.Ytbkgfpebffmffaa
open Go.RowKit
set_option linter.unusedVariables false

/-- The block b's first cells are these bytes, and they may be written. -/
def Bys (w : World) (b : Nat) (l : List UInt8) : Prop := ∀ i (h : i < l.length), w.cell? ⟨b, i, none⟩ = some (.int .u8 (l[i].toNat : Int)) ∧ w.frozen? ⟨b, i, none⟩ = false

theorem Bys.cell {w : World} {b : Nat} {l : List UInt8} (h : Bys w b l) (i : Nat) (hi : i < l.length) : w.cell? ⟨b, i, none⟩ = some (.int .u8 (l[i].toNat : Int)) := (h i hi).1
theorem Bys.frozen {w : World} {b : Nat} {l : List UInt8} (h : Bys w b l) (i : Nat) (hi : i < l.length) : w.frozen? ⟨b, i, none⟩ = false := (h i hi).2

theorem Bys.kept {w w' : World} {b : Nat} {l : List UInt8} {r : Option Nat} (h : Bys w b l) (hb : b < w.heap.size) (g : w.grownBy w' r) (hr : some b ≠ r) : Bys w' b l := by
  intro i hi
  have e := g.block b hb hr
  obtain ⟨h1, h2⟩ := h i hi
  refine ⟨g.cell (a := ⟨b, i, none⟩) h1 hr, ?_⟩
  unfold World.frozen? at h2 ⊢
  simp only at h2 ⊢
  rwa [e]

theorem Bys.drew {w : World} {b : Nat} {l : List UInt8} (h : Bys w b l) : Bys w.drew b l := h

theorem Bys.set {w : World} {b : Nat} {l : List UInt8} (h : Bys w b l) (k : Nat) (c : UInt8) (hk : k < l.length) : Bys (w.setCell ⟨b, k, none⟩ (.int .u8 (c.toNat : Int))) b (l.set k c) := by
  intro i hi
  rw [List.length_set] at hi
  obtain ⟨h1, h2⟩ := h i hi
  refine ⟨?_, by rw [World.frozen?_setCell]; exact h2⟩
  obtain ⟨h3, _⟩ := h k hk
  unfold World.cell? at h1 h3 ⊢
  simp only [World.setCell, Array.getElem?_modify] at h1 h3 ⊢
  simp only [if_true]
  cases hb : w.heap[b]? with
  | none => rw [hb] at h1; simp at h1
  | some o =>
    rw [hb] at h1 h3
    cases o with
    | cells cs t f =>
      simp only [Option.map_some, List.getElem_set] at h1 h3 ⊢
      have hks : k < cs.size := by
        rcases Nat.lt_or_ge k cs.size with q | q
        · exact q
        · simp [Array.getElem?_eq_none q] at h3
      have e0 : (none : Option Nat).isSome = false := rfl
      by_cases e : k = i
      · subst e
        simp [hks]
      · simp only [if_neg e] at *
        have h4 : cs[i]? = some (Value.int IntKind.u8 ↑l[i].toNat) := h1
        show (cs.setIfInBounds k _)[i]? = _
        rw [Array.getElem?_setIfInBounds, if_neg e, h4]
    | _ => simp at h1

theorem to_bytes (w : World) (l : List UInt8) (hl : l.length ≤ 9223372036854775807) :
    ∃ cap w', (convert 9 61 (.string ⟨l.toArray⟩)).run Try.prog w = .ok (.slice (some ⟨w.heap.size, 0, none⟩) l.length cap) w' ∧ l.length ≤ cap ∧ w.grownBy w' none ∧ w.heap.size < w'.heap.size ∧ Bys w' w.heap.size l := by
  have h := run_bytes_of_string (P := Try.prog) w 9 61 5 ⟨l.toArray⟩ Try.underlying9 Try.underlying61 Try.underlying5
  refine ⟨_, _, h, grownCap_ge _ _ _ _, grow_alloc (grow_drew (grow_refl _ _)) _, by simp, fun i hi => ?_⟩
  have hnew : ∀ o : Obj, (w.drew.alloc o).heap[w.heap.size]? = some o := fun o => obj_new w.drew o
  have hs : i < (bytesRow ⟨l.toArray⟩ (grownCap w (ByteArray.size ⟨l.toArray⟩) 0 5)).size := by
    unfold bytesRow
    simp [ByteArray.size]
    omega
  constructor
  · unfold World.cell?
    simp only [hnew]
    unfold bytesRow
    rw [Array.getElem?_append_left (by simpa using hi)]
    simp [hi]
  · unfold World.frozen?
    simp only [hnew, Bool.and_eq_false_iff, decide_eq_false_iff_not]
    left
    omega

theorem conv_bys {w : World} {b : Nat} {l : List UInt8} (h : Bys w b l) (cap : Nat) : (convert 61 9 (.slice (some ⟨b, 0, none⟩) l.length cap)).run Try.prog w = .ok (.string ⟨l.toArray⟩) w := by
  refine run_convert_bytes_back (P := Try.prog) w 61 9 5 ⟨b, 0, none⟩ cap l Try.underlying61 Try.underlying5 Try.underlying9 fun j hj => ?_
  have e : (⟨b, 0, none⟩ : Addr).add j = ⟨b, j, none⟩ := by unfold Addr.add; split <;> simp_all
  rw [e]
  exact h.cell j hj

end Go.Proofs.Ytbkgfpebffmffaa
