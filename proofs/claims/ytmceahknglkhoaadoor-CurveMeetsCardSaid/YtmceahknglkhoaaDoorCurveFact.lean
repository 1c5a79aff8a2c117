/- Curve: the statements' closed fact; a byte behind a text. -/
import Derived.Test.YtmceahknglkhoaaDoorCurveKnown
import Derived.Test.YtmceahknglkhoaaDoorKeepBytes
import Derived.Test.YtmceahknglkhoaaDoorLift
namespace Go.Proofs.YtmceahknglkhoaaDoor
open Go.RowKit
set_option linter.unusedVariables false

def hexK : List UInt8 := [97, 53, 52, 54, 101, 51, 54, 98, 102, 48, 53, 50, 55, 99, 57, 100, 51, 98, 49, 54, 49, 53, 52, 98, 56, 50, 52, 54, 53, 101, 100, 100, 54, 50, 49, 52, 52, 99, 48, 97, 99, 49, 102, 99, 53, 97, 49, 56, 53, 48, 54, 97, 50, 50, 52, 52, 98, 97, 52, 52, 57, 97, 99, 52]
def hexU : List UInt8 := [101, 54, 100, 98, 54, 56, 54, 55, 53, 56, 51, 48, 51, 48, 100, 98, 51, 53, 57, 52, 99, 49, 97, 52, 50, 52, 98, 49, 53, 102, 55, 99, 55, 50, 54, 54, 50, 52, 101, 99, 50, 54, 98, 51, 51, 53, 51, 98, 49, 48, 97, 57, 48, 51, 97, 54, 100, 48, 97, 98, 49, 99, 52, 99]
def hexQ : List UInt8 := [99, 51, 100, 97, 53, 53, 51, 55, 57, 100, 101, 57, 99, 54, 57, 48, 56, 101, 57, 52, 101, 97, 52, 100, 102, 50, 56, 100, 48, 56, 52, 102, 51, 50, 101, 99, 99, 102, 48, 51, 52, 57, 49, 99, 55, 49, 102, 55, 53, 52, 98, 52, 48, 55, 53, 53, 55, 55, 97, 50, 56, 53, 53, 50]
theorem hex_ok : (okR hexK = true ∧ unhexR hexK = cvK) ∧ (okR hexU = true ∧ unhexR hexU = cvU) ∧ (okR hexQ = true ∧ unhexR hexQ = cvR) := by decide +kernel

set_option maxHeartbeats 1000000 in
theorem code_cfact (w : World) : Calls Tryd.prog 10 #[] w (Grown (.bool true) w) := by
  have A1 : ∀ W : World, Calls Tryd.prog 7 #[S hexK] W (Grown (S cvK) W) := fun W => code_bytes W hexK _ (by decide) hex_ok.1.1 hex_ok.1.2
  have A2 : ∀ W : World, Calls Tryd.prog 7 #[S hexU] W (Grown (S cvU) W) := fun W => code_bytes W hexU _ (by decide) hex_ok.2.1.1 hex_ok.2.1.2
  have A3 : ∀ W : World, Calls Tryd.prog 7 #[S hexQ] W (Grown (S cvR) W) := fun W => code_bytes W hexQ _ (by decide) hex_ok.2.2.1 hex_ok.2.2.2
  have A4 : ∀ W : World, Calls Tryd.prog 14 #[S cvK, S cvU] W (Grown (.tuple #[S cvR, .int .i64 0]) W) := fun W => by
    have := code_cmult W cvK cvU (by decide) (by decide)
    rwa [known_mult] at this
  generalize cvK = K at *
  generalize cvU = U at *
  generalize cvR = R at *
  unfold S at *
  unfold hexK at A1
  unfold hexU at A2
  unfold hexQ at A3
  go_enter Tryd.func10, Tryd.ntmps10
  go_wp2_with fail
  (with_reducible refine (A1 _).mono ?_)
  rintro e x1 ⟨rfl, hg1⟩
  go_wp2_with fail
  (with_reducible refine (A2 _).mono ?_)
  rintro e x2 ⟨rfl, hg2⟩
  go_wp2_with fail
  (with_reducible refine (A4 _).mono ?_)
  rintro e x3 ⟨rfl, hg3⟩
  go_wp2_with fail
  (with_reducible refine (A3 _).mono ?_)
  rintro e x4 ⟨rfl, hg4⟩
  go_wp2_with fail
  go_ret
  exact ⟨rfl, grow_trans (grow_trans (grow_trans hg1 hg2) hg3) hg4⟩

/-- A byte in a new block, as a string. -/
theorem conv_one (w : World) (c : UInt8) : (convert 39 9 (.slice (some ⟨w.heap.size, 0, none⟩) 1 1)).run Tryd.prog (w.alloc (.cells #[.int .u8 (c.toNat : Int)] 5)).drew = .ok (.string ⟨#[c]⟩) (w.alloc (.cells #[.int .u8 (c.toNat : Int)] 5)).drew := by
  have h : Bys (w.alloc (.cells #[.int .u8 (c.toNat : Int)] 5)).drew w.heap.size [c] := fun i hi => by
    have hi0 : i = 0 := by simp at hi; omega
    subst hi0
    exact ⟨by rw [obj_cell (obj_new_drew w _)]; rfl, obj_frozen (obj_new_drew w _) 0⟩
  exact conv_bys h 1
theorem u8_xor (c : UInt8) (N : Int) (m : UInt8) (hm : N = (m.toNat : Int)) : bits .xor .u8 (c.toNat : Int) N = ((c ^^^ m).toNat : Int) := by
  subst hm
  rw [UInt8.toNat_xor]
  exact u8_xor_nat _ _ (u8_lt c) (u8_lt m)

end Go.Proofs.YtmceahknglkhoaaDoor
