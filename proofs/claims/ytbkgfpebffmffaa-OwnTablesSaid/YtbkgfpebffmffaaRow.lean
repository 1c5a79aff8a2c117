/- A block known whole: arrays as lists of cells. -/
import Derived.Test.YtbkgfpebffmffaaBase
import Derived.Deep.MidRow
namespace Go.Proofs.Ytbkgfpebffmffaa
open Go.RowKit
set_option linter.unusedVariables false

def Blk (w : World) (B : Nat) (t : TypeId) (vs : List Value) : Prop := w.heap[B]? = some (.cells vs.toArray t (0, 0))

theorem Blk.lt {w : World} {B : Nat} {t : TypeId} {vs : List Value} (h : Blk w B t vs) : B < w.heap.size := lt_of_obj h

theorem Blk.cell {w : World} {B : Nat} {t : TypeId} {vs : List Value} (h : Blk w B t vs) (i : Nat) : w.cell? ⟨B, i, none⟩ = vs[i]? := by
  rw [obj_cell h]
  simp

theorem Blk.frozen {w : World} {B : Nat} {t : TypeId} {vs : List Value} (h : Blk w B t vs) (i : Nat) : w.frozen? ⟨B, i, none⟩ = false := obj_frozen h i

theorem Blk.set {w : World} {B : Nat} {t : TypeId} {vs : List Value} (h : Blk w B t vs) (i : Nat) (v : Value) : Blk (w.setCell ⟨B, i, none⟩ v) B t (vs.set i v) := by
  unfold Blk
  rw [obj_setCell h]
  simp

theorem Blk.kept {w w' : World} {B : Nat} {t : TypeId} {vs : List Value} {r : Option Nat} (h : Blk w B t vs) (g : w.grownBy w' r) (hr : some B ≠ r) : Blk w' B t vs := grow_obj g h hr

theorem Blk.drew {w : World} {B : Nat} {t : TypeId} {vs : List Value} (h : Blk w B t vs) : Blk w.drew B t vs := h

theorem Blk.new (w : World) (t : TypeId) (vs : List Value) : Blk (w.alloc (.cells vs.toArray t)) w.heap.size t vs := obj_new w _

theorem Blk.range {w : World} {B : Nat} {t : TypeId} {vs : List Value} (h : Blk w B t vs) : w.rangeAt B 0 vs := by
  intro j v hv
  rw [Nat.zero_add, h.cell]
  exact hv

theorem Blk.there {w : World} {B : Nat} {t : TypeId} {vs : List Value} (h : Blk w B t vs) (n : Nat) (hn : vs.length = n) : w.there B 0 n := by
  subst hn
  intro j hj
  rw [Nat.zero_add, h.cell, List.getElem?_eq_getElem hj]
  exact ⟨rfl, h.frozen j⟩

theorem setCells_obj (b : Nat) : ∀ (vs : List Value) (o : Nat) (w : World) (c : List Value) (t : TypeId), Blk w b t c → Blk (w.setCells b o vs) b t ((c.take o ++ vs ++ c.drop (o + vs.length)).take c.length) ∨ c.length < o + vs.length
  | [], o, w, c, t, h => by
    left
    simp only [World.setCells, List.append_nil, List.length_nil, Nat.add_zero, List.take_append_drop, List.take_length]
    exact h
  | v :: r, o, w, c, t, h => by
    rcases setCells_obj b r (o + 1) (w.setCell ⟨b, o, none⟩ v) (c.set o v) t (h.set o v) with h1 | h1
    · by_cases q : o < c.length
      · left
        simp only [World.setCells]
        have e : ((c.set o v).take (o + 1) ++ r ++ (c.set o v).drop (o + 1 + r.length)).take (c.set o v).length = (c.take o ++ (v :: r) ++ c.drop (o + (v :: r).length)).take c.length := by
          rw [List.length_set, List.take_succ_eq_append_getElem (by simpa using q), List.getElem_set_self, List.take_set_of_le (Nat.le_refl _), List.drop_set_of_lt (by omega)]
          simp only [List.length_cons, List.append_assoc, List.cons_append, List.nil_append]
          rw [show o + 1 + r.length = o + (r.length + 1) from by omega]
        rw [← e]
        exact h1
      · right
        simp only [List.length_cons]
        omega
    · right
      simp only [List.length_set, List.length_cons] at h1 ⊢
      omega

/-- The whole array is stored. -/
theorem Blk.store {w : World} {B : Nat} {t : TypeId} {c : List Value} (h : Blk w B t c) (vs : List Value) (hn : vs.length = c.length) : Blk (w.setCells B 0 vs) B t vs := by
  rcases setCells_obj B vs 0 w c t h with h1 | h1
  · rw [List.take_zero, List.nil_append, Nat.zero_add, hn, List.drop_length, List.append_nil, List.take_of_length_le (by omega)] at h1
    exact h1
  · omega

theorem grow_setCells (k : Nat) : ∀ (vs : List Value) (o : Nat) (a b : World), a.grownBy b (some k) → a.grownBy (b.setCells k o vs) (some k)
  | [], _, _, _, h => h
  | v :: r, o, a, b, h => grow_setCells k r (o + 1) a (b.setCell ⟨k, o, none⟩ v) (grow_setCell h o v)

theorem grow_setCells_new {a b : World} {r : Option Nat} (h : a.grownBy b r) (k : Nat) (hk : a.heap.size ≤ k) (o : Nat) (vs : List Value) : a.grownBy (b.setCells k o vs) r :=
  grow_trans_new h (grow_setCells k vs o b b (grow_refl _ _)) hk

theorem setCells_new (w : World) (t : TypeId) : ∀ (vs pre c : List Value), vs.length = c.length → (w.alloc (.cells (pre ++ c).toArray t)).setCells w.heap.size pre.length vs = w.alloc (.cells (pre ++ vs).toArray t)
  | [], pre, c, h => by
    obtain rfl : c = [] := List.eq_nil_of_length_eq_zero h.symm
    rfl
  | v :: vs, pre, d :: c, h => by
    rw [World.setCells, World.setCell_alloc_at _ _ _ _ _ rfl]
    have e : (pre ++ d :: c).toArray.setIfInBounds pre.length v = ((pre ++ [v]) ++ c).toArray := by simp
    rw [e]
    have := setCells_new w t vs (pre ++ [v]) c (by simpa using h)
    rw [List.length_append, List.length_singleton] at this
    rw [this, List.append_assoc]
    rfl
  | _ :: _, _, [], h => by simp at h

/-- An array stored into the block that the call has just made. -/
theorem run_store_new {P : Program} (w : World) (c : Array Value) (t : TypeId) (vs : List Value) (hn : vs.length = c.size) (h1 : ∀ v ∈ vs, v.oneCell' = true) :
    (storeCells ⟨w.heap.size, 0, none⟩ vs).run P (w.alloc (.cells c t)) = .ok () (w.alloc (.cells vs.toArray t)) := by
  have hb : Blk (w.alloc (.cells c t)) w.heap.size t c.toList := obj_new w _
  have ht := hb.there c.size (by simp)
  have := run_storeCells_cells (P := P) w.heap.size 0 vs 0 (w.alloc (.cells c t)) (fun j hj => (ht j (by omega)).1) (fun j hj => (ht j (by omega)).2) h1
  rw [this]
  have e := setCells_new w t vs [] c.toList (by rw [hn, Array.length_toList])
  simp only [List.nil_append, List.length_nil] at e
  rw [show (c.toList.toArray : Array Value) = c from by simp] at e
  rw [show (0 + 0 : Nat) = 0 from rfl, e]

/-- One result that lies in a variable's cells: an array. -/
theorem results_row {P : Program} {fn : Func} {t : Tmp} {ty : TypeId} (h : fn.results = #[.cell t ty]) (tmps : Array Value) (w : World) (B : Nat) (hp : tmps.getD t undef = .pointer (some ⟨B, 0, none⟩)) (vs : List Value) (d : TypeDesc)
    (hb : Blk w B ty vs) (hu : P.underlying ty = some d) (hd : d.isRow = true) (hi : (P.info? ty).map (·.size) = some vs.length) : (results fn tmps).run P w = .ok (.agg vs.toArray) w := by
  have hl := run_loadVar_mid w B 0 ty vs d hb.range hu hd hi
  rw [Array.getD_eq_getD_getElem?] at hp
  simp [results, h, hp, hl, asAddr]

end Go.Proofs.Ytbkgfpebffmffaa
