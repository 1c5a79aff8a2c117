/- Slices of strings that the call made. -/
import Derived.Test.YtbkgfpebffmffaaBytes
import Derived.Test.YtbkgfpebffmffaaGrow
namespace Go.Proofs.Ytbkgfpebffmffaa
open Go.RowKit
set_option linter.unusedVariables false

/-- A slice of strings of the call's own. -/
def srow (w : World) (base : Nat) (v : Value) (ls : List (List UInt8)) : Prop := w.ownsRow base 9 1 v ls.length (ls.map S)
theorem info_str : (Try.prog.info? 9).map (fun i => (i.zero, i.size, i.bytes)) = some (some (.string ⟨#[]⟩), 1, 16) := by kernel_rfl
theorem srow_cells {w : World} {base : Nat} {v : Value} {ls : List (List UInt8)} (h : srow w base v ls) (hl : ls ≠ []) :
    ∃ g cap, v = .slice (some ⟨g, 0, none⟩) ls.length cap ∧ base ≤ g ∧ g < w.heap.size ∧ ls.length ≤ cap ∧ cap ≤ maxLen ∧ ∀ i (hi : i < ls.length), w.cell? ⟨g, i, none⟩ = some (S ls[i]) := by
  have h0 := h
  unfold srow at h
  rcases h.2 with ⟨_, hn⟩ | ⟨g, cap, cur, hv, hbg, hg, hnc, hcm, hcs, htake⟩
  · exact absurd (List.eq_nil_of_length_eq_zero hn) hl
  · subst hv
    refine ⟨g, cap, rfl, hbg, lt_of_obj hg, hnc, hcm, fun i hi => ?_⟩
    have e1 : (ls.map S)[i]? = some (S ls[i]) := by simp [hi]
    have e2 := h.cells (g := g) rfl i _ e1
    rw [show (⟨g, 0, none⟩ : Addr).add i = ⟨g, i, none⟩ from by cases i <;> simp [Addr.add]] at e2
    exact e2

theorem srow_nil (w : World) (base : Nat) : srow w base (.slice none 0 0) [] := World.ownsRow_nil _ _ _ _
theorem srow.kept {w w' : World} {base : Nat} {v : Value} {ls : List (List UInt8)} {r : Option Nat} (h : srow w base v ls) (g : w.grownBy w' r) (hr : v.ownBlock = none ∨ v.ownBlock ≠ r) : srow w' base v ls := World.ownsRow.kept h g hr
theorem srow.keptN {w w' : World} {base : Nat} {v : Value} {ls : List (List UInt8)} (h : srow w base v ls) (g : w.grownBy w' none) : srow w' base v ls := World.ownsRow.kept h g (by cases v.ownBlock <;> simp)
/-- Rows whose first strings differ lie in blocks of their own. -/
theorem srow_apart {w : World} {base base' : Nat} {v v' : Value} {ls ls' : List (List UInt8)} (h : srow w base v ls) (h' : srow w base' v' ls') (hl : 0 < ls.length) (hl' : 0 < ls'.length) (hne : ls[0] ≠ ls'[0]) : v.ownBlock ≠ v'.ownBlock := by
  obtain ⟨g, cap, hv, _, _, _, _, hc⟩ := srow_cells h (List.ne_nil_of_length_pos hl)
  obtain ⟨g', cap', hv', _, _, _, _, hc'⟩ := srow_cells h' (List.ne_nil_of_length_pos hl')
  subst hv hv'
  intro e
  have eg : g = g' := by simpa [Value.ownBlock] using e
  subst eg
  have h1 := hc 0 hl
  have h2 := hc' 0 hl'
  rw [h1] at h2
  have h3 : S ls[0] = S ls'[0] := Option.some.inj h2
  unfold S at h3
  apply hne
  have h4 := Value.string.inj h3
  have h5 : ls[0].toArray = ls'[0].toArray := ByteArray.mk.inj h4
  exact Array.toList_inj.2 h5 |> fun h => by simpa using h
theorem srow_none {w : World} {base : Nat} {v : Value} {ls : List (List UInt8)} (h : srow w base v ls) (hl : ls.length = 0) : v.ownBlock = none ∨ ∃ g, v.ownBlock = some g ∧ base ≤ g := by
  rcases h.2 with ⟨e, _⟩ | ⟨g, cap, cur, hv, hbg, _⟩
  · left; rw [e]; rfl
  · right; exact ⟨g, by rw [hv]; rfl, hbg⟩
theorem srow_own {w : World} {base : Nat} {v : Value} {ls : List (List UInt8)} (h : srow w base v ls) : ∀ k, v.ownBlock = some k → base ≤ k ∧ k < w.heap.size := by
  intro k hk
  rcases h.2 with ⟨e, _⟩ | ⟨g, cap, cur, hv, hbg, hg, _⟩
  · rw [e] at hk; cases hk
  · rw [hv] at hk
    obtain rfl : g = k := by simpa [Value.ownBlock] using hk
    exact ⟨hbg, lt_of_obj hg⟩

/-- 'l = append(l, s)' -/
theorem append_str {w : World} {ops : Array Oper} {rest : List Oper} {o : Oper} {a : Act} {Q : Exit → Act → World → Prop} (hgd : o.guard = none) (s x : Operand)
    (ho : o.op = .call { callee := .builtin .append, args := #[s, x], argTypes := #[43, 43] })
    (base : Nat) (v : Value) (ls : List (List UInt8)) (hs : a.eval s = v) (hown : srow w base v ls) (t : List UInt8) (u : Value) (hu : u = S t)
    (hx : a.eval x = .slice (some ⟨w.heap.size, 0, none⟩) 1 1) (hroom : (ls.length + 1) * 16 ≤ 140737488355328) (hbase : base ≤ w.heap.size)
    (h : ∀ v' w', srow w' base v' (ls ++ [t]) → w.grownBy w' v.ownBlock → wpList Try.prog ops Q rest (a.put o.dst v') w') : wpList Try.prog ops Q (o :: rest) a (w.alloc (.cells #[u] 9)) := by
  subst hu
  refine append_one hgd s x 43 ho base 9 (.string ⟨#[]⟩) 16 Try.underlying43 info_str rfl v ls.length (ls.map S) hs hown (S t) rfl hx (by omega) hroom hbase ?_
  intro v' w' h1 h2
  refine h v' w' ?_ h2
  unfold srow
  rw [List.length_append, List.map_append]
  exact h1

/-- A row of strings lies apart from a block of another type. -/
theorem srow_other {w : World} {base k : Nat} {v : Value} {ls : List (List UInt8)} {c : Array Value} {t : TypeId} {fr : Nat × Nat} (h : srow w base v ls) (hk : w.heap[k]? = some (.cells c t fr)) (ht : t ≠ 9) : v.ownBlock ≠ some k := by
  intro e
  rcases h.2 with ⟨e2, _⟩ | ⟨g, cap, cur, hv, hbg, hg, _⟩
  · rw [e2] at e; cases e
  · rw [hv] at e
    obtain rfl : g = k := by simpa [Value.ownBlock] using e
    rw [hg] at hk
    injection hk with hk
    injection hk with _ h2 _
    exact ht h2.symm

end Go.Proofs.Ytbkgfpebffmffaa
