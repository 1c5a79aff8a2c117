/- AES: the tables. -/
import Derived.Test.YtffeekfofbcobaaGreatAesPlain
import Derived.Test.YtffeekfofbcobaaGreatGalois
import Derived.Test.YtffeekfofbcobaaGreatRow
namespace Go.Proofs.YtffeekfofbcobaaGreat
open Go.RowKit
set_option linter.unusedVariables false

/-- The tables of the first i bytes. -/
def TabK (w : World) (T i : Nat) : Prop := ∃ c : Array Value, w.heap[T]? = some (.cells c 164 (0, 0)) ∧ c.size = 512 ∧ ∀ j, j < i → c[j]? = some (.int .u8 (gsub j : Nat)) ∧ c[256 + gsub j]? = some (.int .u8 (j : Nat))

theorem TabK.lt {w : World} {T i : Nat} (h : TabK w T i) : T < w.heap.size := by
  obtain ⟨c, h1, _⟩ := h
  exact lt_of_obj h1

theorem TabK.there {w : World} {T i : Nat} (h : TabK w T i) (o : Nat) (ho : o < 512) : ∃ v, w.cell? ⟨T, o, none⟩ = some v ∧ w.frozen? ⟨T, o, none⟩ = false := by
  obtain ⟨c, h1, h2, _⟩ := h
  refine ⟨c[o], ?_, obj_frozen h1 o⟩
  rw [obj_cell h1]
  simp [h2, ho]

theorem TabK.step {w : World} {T i : Nat} (h : TabK w T i) (hi : i < 256) : TabK ((w.setCell ⟨T, i, none⟩ (.int .u8 (gsub i : Nat))).setCell ⟨T, 256 + gsub i, none⟩ (.int .u8 (i : Nat))) T (i + 1) := by
  obtain ⟨c, h1, h2, h3⟩ := h
  have hs := gsub_lt hi
  refine ⟨_, obj_setCell (obj_setCell h1 _ _) _ _, by simp [h2], fun j hj => ?_⟩
  have hsj : j < 256 := by omega
  have hgj := gsub_lt hsj
  by_cases e : j = i
  · subst e
    constructor
    · rw [Array.getElem?_setIfInBounds_ne (by omega), Array.getElem?_setIfInBounds_self]
      simp; omega
    · rw [Array.getElem?_setIfInBounds_self]
      simp; omega
  · have h4 := h3 j (by omega)
    have hne : gsub i ≠ gsub j := fun q => e ((gsub_inj hi hsj).1 q).symm
    constructor
    · rw [Array.getElem?_setIfInBounds_ne (by omega), Array.getElem?_setIfInBounds_ne (by omega)]
      exact h4.1
    · rw [Array.getElem?_setIfInBounds_ne (by omega), Array.getElem?_setIfInBounds_ne (by omega)]
      exact h4.2

/-- Both tables. -/
def Tab (w : World) (T : Nat) : Prop := TabK w T 256

theorem Tab.kept {w w' : World} {T : Nat} {r : Option Nat} (h : Tab w T) (g : w.grownBy w' r) (hr : some T ≠ r) : Tab w' T := by
  obtain ⟨c, h1, h2⟩ := h
  exact ⟨c, grow_obj g h1 hr, h2⟩

theorem Tab.sub {w : World} {T : Nat} (h : Tab w T) (c : UInt8) : w.cell? ⟨T, c.toNat, none⟩ = some (.int .u8 ((gsubB c).toNat : Int)) := by
  obtain ⟨d, h1, h2, h3⟩ := h
  rw [obj_cell h1, (h3 _ (u8_lt c)).1, toNat_gsubB]

theorem Tab.back {w : World} {T : Nat} (h : Tab w T) (c : UInt8) : w.cell? ⟨T, 256 + c.toNat, none⟩ = some (.int .u8 ((gbackB c).toNat : Int)) := by
  obtain ⟨d, h1, h2, h3⟩ := h
  have hb := gback_lt (u8_lt c)
  have := (h3 _ hb).2
  rw [(gback_sub (u8_lt c)).2.1] at this
  rw [obj_cell h1, this, toNat_gbackB]

def Made (w : World) (e : Ending) (w' : World) : Prop := ∃ T, e = .returned (.pointer (some ⟨T, 0, none⟩)) ∧ w.heap.size ≤ T ∧ Tab w' T ∧ w.grownBy w' none

set_option maxRecDepth 20000 in
set_option maxHeartbeats 1000000 in
theorem code_made (w : World) : Calls Tryz.prog 105 #[] w (Made w) := by
  go_enter Tryz.func105, Tryz.ntmps105
  go_upto_region 2 with (fail)
  have hx0 : TabK (w.alloc (Obj.cells Tryz.zeroCells164 164)) w.heap.size 0 := ⟨Tryz.zeroCells164, obj_new w _, by kernel_rfl, fun j hj => absurd hj (by omega)⟩
  have hg0 : w.grownBy (w.alloc (Obj.cells Tryz.zeroCells164 164)) none := grow_alloc (grow_refl w _) _
  have HX0 := Lib.hid hx0
  have HG0 := Lib.hid hg0
  clear hx0 hg0
  obtain ⟨T, hT⟩ : ∃ T, T = w.heap.size := ⟨_, rfl⟩
  have hT0 : w.heap.size ≤ T := by omega
  rw [← hT] at HX0 ⊢
  clear hT
  generalize w.alloc (Obj.cells Tryz.zeroCells164 164) = x at *
  go_wp2_with fail
  go_loopw [6] (fun vi wr => ∃ i : Nat, i ≤ 256 ∧ vi = .int .i64 i ∧ TabK wr T i ∧ x.grownBy wr (some T)) (fun vi _ => 256 - (intOf vi).toNat)
  case atStart => exact ⟨0, by omega, rfl, HX0.out, grow_refl _ _⟩
  case round =>
    obtain ⟨i, hi, rfl, hK, hg⟩ := hrel
    by_cases hlt : i < 256
    · have hsl := gsub_lt hlt
      obtain ⟨v1, c1, f1⟩ := hK.there i (by omega)
      obtain ⟨v2, c2, f2⟩ := TabK.there (i := 0) (w := wr.setCell ⟨T, i, none⟩ (.int .u8 (gsub i : Nat))) (T := T) (by obtain ⟨c, h1, h2, _⟩ := hK; exact ⟨_, obj_setCell h1 _ _, by simpa using h2, fun j hj => absurd hj (by omega)⟩) (256 + gsub i) (by omega)
      have hst := Lib.hid (And.intro (hK.step hlt) (grow_setCell (grow_setCell hg i (.int .u8 (gsub i : Nat))) (256 + gsub i) (.int .u8 (i : Nat))))
      have hcv : (i : Int) % 256 = (i : Int) := by omega
      have A1 : ∀ W : World, Calls Tryz.prog 110 #[.int .u8 i] W fun e w' => e = .returned (.int .u8 (gsub i)) ∧ W = w' := fun W => galois_sub i W hlt
      clear hK hg
      generalize gsub i = s at *
      have b0 : (0 : Int) ≤ (s : Int) := by omega
      have b1 : (s : Int) < 256 := by omega
      go_wp2_with fail
      refine (A1 _).mono ?_
      rintro e w' ⟨rfl, rfl⟩
      go_wp2_with fail
      go_region
      go_wp2_with fail
      go_roundw
      case rel => exact ⟨i + 1, by omega, by go_num, hst.out.1, grow_drew hst.out.2⟩
      case measure => simp [intOf]; omega
    · obtain rfl : i = 256 := by omega
      go_wp2_with fail
      go_ret
      exact ⟨T, rfl, hT0, hK, grow_trans_new HG0.out hg hT0⟩

end Go.Proofs.YtffeekfofbcobaaGreat
