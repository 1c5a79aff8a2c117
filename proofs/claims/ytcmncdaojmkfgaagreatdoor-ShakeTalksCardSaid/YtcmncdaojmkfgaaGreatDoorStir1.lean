/- ChaCha: the closure that stirs four words of a state. -/
import Derived.Test.YtcmncdaojmkfgaaGreatDoorQ18
import Derived.Test.YtcmncdaojmkfgaaGreatDoorQ02
import Derived.Deep.RegionWith
import Derived.Deep.DrawnRows
namespace Go.Proofs.YtcmncdaojmkfgaaGreatDoor
open Go.RowKit
set_option linter.unusedVariables false
attribute [local go_sem ↓] Go.wp_at_zero Go.wp_at_succ

/-- A word in a cell. -/
def wcell (n : Nat) : Value := .int .u32 (n : Int)
/-- Sixteen words by value. -/
def A16 (l : List Nat) : Value := .agg (l.map wcell).toArray
/-- Block B holds these words. -/
def WB (w : World) (B : Nat) (l : List Nat) : Prop := w.heap[B]? = some (.cells (l.map wcell).toArray 216 (0, 0))
def Small (l : List Nat) : Prop := ∀ i, l.getD i 0 < 4294967296

/-- A quarter of a round on four places. -/
def qset (a b c d : Nat) (l : List Nat) : List Nat :=
  let q := qquarter (l.getD a 0, l.getD b 0, l.getD c 0, l.getD d 0)
  (((l.set a q.1).set b q.2.1).set c q.2.2.1).set d q.2.2.2

theorem WB.cell {w : World} {B : Nat} {l : List Nat} (h : WB w B l) (i : Nat) (hi : i < l.length) : w.cell? ⟨B, i, none⟩ = some (.int .u32 (l.getD i 0 : Nat)) := by
  rw [obj_cell h]
  simp [wcell, List.getD, List.getElem?_eq_getElem hi]

theorem WB.frozen {w : World} {B : Nat} {l : List Nat} (h : WB w B l) (i : Nat) : w.frozen? ⟨B, i, none⟩ = false := obj_frozen h i

theorem WB.set {w : World} {B : Nat} {l : List Nat} (h : WB w B l) (i n : Nat) : WB (w.setCell ⟨B, i, none⟩ (.int .u32 (n : Int))) B (l.set i n) := by
  unfold WB
  rw [obj_setCell h, List.map_set]
  simp [wcell]

theorem WB.kept {w w' : World} {B : Nat} {l : List Nat} {r : Option Nat} (h : WB w B l) (g : w.grownBy w' r) (hr : some B ≠ r) : WB w' B l := grow_obj g h hr

theorem grow_keep {w x : World} {p : Addr} {v : Value} (h : w.drew.grownBy x none) (hc : w.cell? p = some v) : x.cell? p = some v := h.cell (a := p) hc (by simp)

set_option maxRecDepth 20000 in
set_option maxHeartbeats 2000000 in
theorem code_stir1 (w : World) (B : Nat) (l : List Nat) (a b c d : Nat) (hB : WB w B l) (hl : l.length = 16) (hx : Small l) (ha : a < 16) (hb : b < 16) (hc : c < 16) (hd : d < 16) (hab : a ≠ b) (hac : a ≠ c) (had : a ≠ d) (hbc : b ≠ c) (hbd : b ≠ d) (hcd : c ≠ d) :
    Calls Tryz.prog 158 #[.int .i64 a, .int .i64 b, .int .i64 c, .int .i64 d, .pointer (some ⟨B, 0, none⟩)] w fun e w' => e = .returned (.tuple #[]) ∧ WB w' B (qset a b c d l) ∧ w.grownBy w' (some B) := by
  have ca := hB.cell a (by omega)
  have cb := hB.cell b (by omega)
  have cc := hB.cell c (by omega)
  have cd := hB.cell d (by omega)
  have xa := hx a
  have xb := hx b
  have xc := hx c
  have xd := hx d
  have HQ := Lib.hid (rfl : qset a b c d l = qset a b c d l)
  obtain ⟨ya, hya⟩ : ∃ y, y = l.getD a 0 := ⟨_, rfl⟩
  obtain ⟨yb, hyb⟩ : ∃ y, y = l.getD b 0 := ⟨_, rfl⟩
  obtain ⟨yc, hyc⟩ : ∃ y, y = l.getD c 0 := ⟨_, rfl⟩
  obtain ⟨yd, hyd⟩ : ∃ y, y = l.getD d 0 := ⟨_, rfl⟩
  have hq : qset a b c d l = (((l.set a (qquarter (ya, yb, yc, yd)).1).set b (qquarter (ya, yb, yc, yd)).2.1).set c (qquarter (ya, yb, yc, yd)).2.2.1).set d (qquarter (ya, yb, yc, yd)).2.2.2 := by
    rw [hya, hyb, hyc, hyd]; rfl
  rw [← hya] at ca xa
  rw [← hyb] at cb xb
  rw [← hyc] at cc xc
  rw [← hyd] at cd xd
  clear hya hyb hyc hyd HQ
  have A : ∀ W : World, Calls Tryz.prog 159 #[.int .u32 ya, .int .u32 yb, .int .u32 yc, .int .u32 yd] W fun e w' => e = .returned (R4 (qquarter (ya, yb, yc, yd))) ∧ W.grownBy w' none := fun W => code_quarter W ya yb yc yd xa xb xc xd
  generalize qquarter (ya, yb, yc, yd) = Z at *
  obtain ⟨za, zb, zc, zd⟩ := Z
  simp only at hq
  unfold R4 at A
  rw [hq]
  clear hq hx
  have Hl := Lib.hid hl
  clear hl
  have ia : (0 : Int) ≤ (a : Int) := by omega
  have ib : (0 : Int) ≤ (b : Int) := by omega
  have ic : (0 : Int) ≤ (c : Int) := by omega
  have id' : (0 : Int) ≤ (d : Int) := by omega
  have ja : (a : Int) < 16 := by omega
  have jb : (b : Int) < 16 := by omega
  have jc : (c : Int) < 16 := by omega
  have jd : (d : Int) < 16 := by omega
  go_enter Tryz.func158, Tryz.ntmps158
  go_wp2_with fail
  go_region_with (first
    | (go_at_call 159; (with_reducible refine (A _).mono ?_); rintro e x ⟨rfl, hg⟩; have hBx := (hB.kept (grow_drew (grow_refl w none)) (by simp)).kept hg (by simp); have fa := hBx.frozen a; have fb := hBx.frozen b; have fc := hBx.frozen c; have fd := hBx.frozen d; have ga := grow_keep hg ca; have gb := grow_keep hg cb; have gc := grow_keep hg cc; have gd := grow_keep hg cd))
  all_goals
    go_wp2_with fail
    go_end0
    refine ⟨rfl, ?_, ?_⟩
    · exact (((hBx.set a za).set b zb).set c zc).set d zd
    · exact grow_setCell (grow_setCell (grow_setCell (grow_setCell (grow_trans (grow_drew (grow_refl w _)) (grow_none hg)) _ _) _ _) _ _) _ _

end Go.Proofs.YtcmncdaojmkfgaaGreatDoor
