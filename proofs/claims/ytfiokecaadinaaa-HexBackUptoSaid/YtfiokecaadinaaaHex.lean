/- Hex and Unhex: contracts. -/
import Derived.Test.YtfiokecaadinaaaBytes
import Derived.StillTailTactics
namespace Go.Proofs.Ytfiokecaadinaaa
open Go.RowKit
set_option linter.unusedVariables false

def hexes : List UInt8 := [48, 49, 50, 51, 52, 53, 54, 55, 56, 57, 97, 98, 99, 100, 101, 102]
/-- The sign of a number below 16. -/
def hexD (n : Nat) : UInt8 := hexes.getD n 0
def hexB (c : UInt8) : List UInt8 := [hexD (c.toNat / 16), hexD (c.toNat % 16)]
def hexL (l : List UInt8) : List UInt8 := l.flatMap hexB

theorem hexL_length (l : List UInt8) : (hexL l).length = 2 * l.length := by
  induction l with
  | nil => rfl
  | cons c l ih => simp only [hexL, List.flatMap_cons, List.length_append, List.length_cons, hexB] at ih ⊢; rw [ih]; simp; omega

theorem hexL_append (l r : List UInt8) : hexL (l ++ r) = hexL l ++ hexL r := by simp [hexL]

theorem hexL_snoc (l : List UInt8) (k : Nat) (h : k < l.length) : hexL (l.take (k + 1)) = hexL (l.take k) ++ [hexD (l[k].toNat / 16), hexD (l[k].toNat % 16)] := by
  rw [List.take_succ_eq_append_getElem h, hexL_append]
  simp [hexL, hexB]

theorem hex_us {c : UInt8} (hc : c.toNat < 256) (h1 : ((c.toNat : Int) / 16).toNat < (ByteArray.mk #[48, 49, 50, 51, 52, 53, 54, 55, 56, 57, 97, 98, 99, 100, 101, 102]).size) (h2 : ((c.toNat : Int) % 16).toNat < (ByteArray.mk #[48, 49, 50, 51, 52, 53, 54, 55, 56, 57, 97, 98, 99, 100, 101, 102]).size) :
    (#[.int .u8 (((ByteArray.mk #[48, 49, 50, 51, 52, 53, 54, 55, 56, 57, 97, 98, 99, 100, 101, 102])[((c.toNat : Int) / 16).toNat]).toNat : Int), .int .u8 (((ByteArray.mk #[48, 49, 50, 51, 52, 53, 54, 55, 56, 57, 97, 98, 99, 100, 101, 102])[((c.toNat : Int) % 16).toNat]).toNat : Int)] : Array Value) = ([hexD (c.toNat / 16), hexD (c.toNat % 16)].map bcell).toArray := by
  have e1 : ((c.toNat : Int) / 16).toNat = c.toNat / 16 := by omega
  have e2 : ((c.toNat : Int) % 16).toNat = c.toNat % 16 := by omega
  simp only [e1, e2]
  have g : ∀ n (h : n < 16), (ByteArray.mk #[48, 49, 50, 51, 52, 53, 54, 55, 56, 57, 97, 98, 99, 100, 101, 102])[n]'h = hexD n := by
    intro n h
    simp only [hexD, hexes, List.getD]
    rw [List.getElem?_eq_getElem (by simpa using h)]
    rfl
  rw [g _ (by omega), g _ (by omega)]
  rfl

set_option maxHeartbeats 400000 in
theorem code_hex (w : World) (l : List UInt8) (hl : l.length ≤ 70368744177664) :
    Calls Try.prog 11 #[S l] w fun e w' => e = .returned (S (hexL l)) ∧ w.grownBy w' none := by
  unfold S
  go_enter Try.func11, Try.ntmps11
  go_wp2
  go_loopw [3, 7] (fun vb vi wr => ∃ k : Nat, k ≤ l.length ∧ vi = .int .i64 k ∧ brow wr w.heap.size vb (hexL (l.take k)) ∧ Below w.heap.size w wr) (fun _ vi _ => l.length - (intOf vi).toNat)
  case atStart => exact ⟨0, by omega, rfl, by simpa [hexL] using brow_nil _ _, Below.refl _ _⟩
  case round =>
    obtain ⟨k, hk, rfl, hown, HB⟩ := hrel
    by_cases hlt : k < l.length
    · have HS := Lib.hid (hexL_snoc l k hlt)
      go_wp2
      have hD1 : ((hexL (l.take k)).length) + 2 ≤ 140737488355328 := by rw [hexL_length, List.length_take]; omega
      have hz := HB.size
      have hkb : k < (ByteArray.mk l.toArray).size := by simpa [ByteArray.size] using hlt
      have hc : (ByteArray.mk l.toArray)[k] = l[k] := rfl
      have hcl := u8_lt l[k]
      generalize l[k] = c at *
      have i1 : (0 : Int) ≤ (c.toNat : Int) / 16 := by omega
      have i2 : (c.toNat : Int) / 16 < 16 := by omega
      have i3 : bits .and .u8 (c.toNat : Int) 15 = ((c.toNat % 16 : Nat) : Int) := by
        rw [show (15 : Int) = ((15 : Nat) : Int) from rfl, u8_and_nat _ _ hcl (by omega), nat_mask4]
      have i4 : (0 : Int) ≤ (c.toNat : Int) % 16 := by omega
      have i5 : (c.toNat : Int) % 16 < 16 := by omega
      go_region_held3 (fun _ => True) (first | trivial)
        (first
          | ((refine step_bytes (by rfl) _ _ (by rfl) w.heap.size _ _ (by rfl) ((hown.alloc _).drew) wr.heap.size _ 2 2 (by rfl) [hexD (c.toNat / 16), hexD (c.toNat % 16)] (obj_new_drew wr _) ?h2 (by rfl) (by simp) hD1 ?h3 ?_); (case h2 => exact hex_us hcl _ _); (case h3 => exact Nat.le_trans hz (by simp)); intro v' w' hown' hg' _))
      all_goals
        replace HB := own_below HB hown hz (grow_trans (grow_drew (World.grownBy_alloc wr _ _)) hg')
        rw [← HS.out] at hown'
        clear hown hg' hz
        go_wp2
        go_roundw
        case rel => exact ⟨k + 1, by omega, by go_num, hown', HB⟩
        case measure => simp [intOf]; omega
    · obtain rfl : k = l.length := by omega
      rw [List.take_length] at hown
      have hcv := conv_brow hown
      go_wp2
      go_ret
      exact ⟨rfl, grow_of_below HB⟩

end Go.Proofs.Ytfiokecaadinaaa
