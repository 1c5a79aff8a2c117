/- How the arguments of a statement are opened: numbers, bools, strings, structs of these, slices of these. -/
import Derived.Test.YtmomfbkpniblgaaGreatDoorBase
import Derived.ProofKit
import Derived.ShutString
import Derived.ChangeOld
import Derived.Deep.Slices
import Derived.Lib.SmallJoins
namespace Go.Proofs.YtmomfbkpniblgaaGreatDoor
open Go.ChangeShapes Go.WideShapes Go.ChangeAt Go.RowKit
open Go.ChangeMaps (open_string shut_string)
set_option linter.unusedVariables false

/-- The kinds of a value of one cell that a statement takes. -/
inductive Lk where
  | int (k : IntKind)
  | bool
  | str

def LeafOk : Lk → Value → Prop
  | .int k, v => ∃ n, v = .int k n ∧ (Lit.int k n).wf = true
  | .bool, v => ∃ b, v = .bool b
  | .str, v => ∃ s : ByteArray, v = .string s ∧ s.size ≤ maxLen

/-- What reads at this type has these kinds of values, cell by cell. -/
def Leaves (P : Program) (t : TypeId) (ks : List Lk) : Prop :=
  ∀ (H : Type) (enc : TypeId × Value → H) (w : World) (base : Nat) (spare : Nat → Bool) (held : Bool) (fuel : Nat) (cs : List Value) (x : DataW H × List MemPlace),
    DataW.trod enc P w base spare held fuel t cs = some x → ∀ (j : Nat) (k : Lk), ks[j]? = some k → ∃ v, cs[j]? = some v ∧ LeafOk k v

theorem leaves_int {P : Program} {t : TypeId} {k : IntKind} (ht : P.underlying t = some (.int k)) : Leaves P t [.int k] := by
  intro H enc w base spare held fuel cs x h j k' hj
  obtain ⟨n, rfl, _, hw⟩ := DataW.trod_int ht h
  match j, hj with
  | 0, hj => simp at hj; subst hj; exact ⟨_, rfl, n, rfl, hw⟩

theorem leaves_bool {P : Program} {t : TypeId} (ht : P.underlying t = some .bool) : Leaves P t [.bool] := by
  intro H enc w base spare held fuel cs x h j k' hj
  obtain ⟨n, rfl, _⟩ := DataW.trod_bool ht h
  match j, hj with
  | 0, hj => simp at hj; subst hj; exact ⟨_, rfl, n, rfl⟩

theorem leaves_str {P : Program} {t : TypeId} (ht : P.underlying t = some .string) : Leaves P t [.str] := by
  intro H enc w base spare held fuel cs x h j k' hj
  obtain ⟨n, rfl, _, hw⟩ := DataW.trod_string ht h
  match j, hj with
  | 0, hj => simp at hj; subst hj; exact ⟨_, rfl, n, rfl, hw⟩

theorem leaves_struct {P : Program} {t : TypeId} {fs : Array Field} (ht : P.underlying t = some (.struct fs)) {ks : List Lk}
    (hks : ∀ (j : Nat) (k : Lk), ks[j]? = some k → ∃ (i : Nat) (f : Field) (kf : List Lk) (i' : Nat), fs[i]? = some f ∧ Leaves P f.type kf ∧ j = f.offset + i' ∧ kf[i']? = some k) : Leaves P t ks := by
  intro H enc w base spare held fuel cs x h j k hj
  obtain ⟨xs, n, _, _, _, hlen, hf⟩ := DataW.trod_struct ht h
  obtain ⟨i, f, kf, i', h1, h2, h3, h4⟩ := hks j k hj
  have hi : i < xs.length := by rw [hlen]; exact (Array.getElem?_eq_some_iff.1 h1).1
  have e := hf i f h1
  rw [List.getElem?_eq_getElem hi] at e
  obtain ⟨v, hv, hl⟩ := h2 H enc w base spare held n _ _ e i' k h4
  rw [List.getElem?_take] at hv
  split at hv
  · rw [List.getElem?_drop] at hv
    exact ⟨v, by rw [h3]; exact hv, hl⟩
  · cases hv

/-- A slice that came in: nil, or rows of cells of these kinds. -/
def IsRecs (ks : List Lk) (w : World) (a : Option Addr) (len cap : Nat) : Prop :=
  (a = none ∧ len = 0 ∧ cap = 0) ∨
  ∃ x, a = some x ∧ len ≤ cap ∧ cap ≤ maxLen ∧ ∀ i, i < len → ∀ (j : Nat) (k : Lk), ks[j]? = some k → ∃ v, w.cell? (x.add (i * ks.length + j)) = some v ∧ LeafOk k v

theorem cell_of_cells {w : World} {base : Nat} {a : Addr} {n : Nat} {cs : List Value} (h : w.cells? base a n = some cs) : ∀ (j : Nat) (v : Value), cs[j]? = some v → w.cell? (a.add j) = some v := by
  intro j v hj
  obtain ⟨_, hlen, hc⟩ := World.cells?_some h
  have hjl : j < cs.length := (List.getElem?_eq_some_iff.1 hj).1
  have := hc j (by omega)
  rw [this, hj]

theorem recs_of {H : Type} {enc : TypeId × Value → H} {P : Program} {w : World} {base : Nat} {spare : Nat → Bool} {held : Bool} {t e : TypeId} {a : Option Addr} {len cap : Nat} {d : DataW H} {p : List MemPlace} {ks : List Lk}
    (ht : P.underlying t = some (.slice e)) (he : Leaves P e ks) (hc : P.cellsOf e = ks.length) (h : DataW.Trod enc P w base spare held t (.slice a len cap) d p) : IsRecs ks w a len cap := by
  obtain ⟨fuel, hf⟩ := h
  rcases Deep.open_slice ht hf with ⟨hcs, _⟩ | ⟨x, l, c, m, n, D, Pl, hcs, hb, hl, hm, hmm, _, hx⟩
  · simp [Value.cells] at hcs
    exact .inl hcs
  · simp [Value.cells] at hcs
    obtain ⟨rfl, rfl, rfl⟩ := hcs
    refine .inr ⟨x, rfl, hl, hm, fun i hi j k hj => ?_⟩
    obtain ⟨cs, h1, h2⟩ := hx i (by rw [hmm]; split <;> omega)
    obtain ⟨v, hv, hk⟩ := he _ _ _ _ _ _ _ _ _ h2 j k hj
    have := cell_of_cells h1 j v hv
    rw [Deep.add_add, hc] at this
    exact ⟨v, this, hk⟩

/-- A struct of these by value: the aggregate's cells. -/
theorem agg_of {H : Type} {enc : TypeId × Value → H} {P : Program} {w : World} {r : Reach} {b0 base : Nat} {spare : Nat → Bool} {held : Bool} {t : TypeId} {fs : Array Field} {v : Value} {d : DataW H} {p : List MemPlace} {ks : List Lk}
    (ht : P.underlying t = some (.struct fs)) (he : Leaves P t ks) (hc : P.cellsOf t = ks.length) (hv : Value.okWide P w r b0 t v) (h : DataW.Trod enc P w base spare held t v d p) :
    ∃ cs : Array Value, v = .agg cs ∧ cs.size = ks.length ∧ ∀ (j : Nat) (k : Lk), ks[j]? = some k → ∃ v, cs[j]? = some v ∧ LeafOk k v := by
  obtain ⟨cs, rfl, hsz⟩ := okWide_struct ht hv
  obtain ⟨fuel, hf⟩ := h
  refine ⟨cs, rfl, hsz.trans hc, fun j k hj => ?_⟩
  obtain ⟨v, hv, hk⟩ := he _ _ _ _ _ _ _ _ _ hf j k hj
  exact ⟨v, by simpa [Value.cells] using hv, hk⟩

theorem arr2 {α : Type} {cs : Array α} (h : cs.size = 2) : ∃ c0 c1, cs = #[c0, c1] := by
  obtain ⟨l⟩ := cs
  match l, h with
  | [c0, c1], _ => exact ⟨c0, c1, rfl⟩

theorem arr4 {α : Type} {cs : Array α} (h : cs.size = 4) : ∃ c0 c1 c2 c3, cs = #[c0, c1, c2, c3] := by
  obtain ⟨l⟩ := cs
  match l, h with
  | [c0, c1, c2, c3], _ => exact ⟨c0, c1, c2, c3, rfl⟩

end Go.Proofs.YtmomfbkpniblgaaGreatDoor
