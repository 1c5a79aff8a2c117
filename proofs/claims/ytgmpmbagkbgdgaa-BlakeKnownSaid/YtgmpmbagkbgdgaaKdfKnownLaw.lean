/- The walk of KdfKnown. -/
import Derived.Test.YtgmpmbagkbgdgaaKdf
import Derived.Test.YtgmpmbagkbgdgaaKeepBytes
import Derived.Test.YtgmpmbagkbgdgaaRest
namespace Go.Proofs.Ytgmpmbagkbgdgaa
open Go.RowKit
set_option linter.unusedVariables false

def GrownH (w : World) (v : Value) (e : Ending) (w' : World) : Prop := e = .returned v ∧ Hid (w.grownBy w' none)
theorem lift (w : World) {k : FuncId} {args : Array Value} {v : Value} (A : ∀ W : World, Calls Try.prog k args W (Grown v W)) (W : World) (h : Hid (w.grownBy W none)) : Calls Try.prog k args W (GrownH w v) :=
  (A W).mono fun e w' ⟨h1, h2⟩ => ⟨h1, Lib.hid (grow_trans h.out h2)⟩

def kdKey : List UInt8 := Lib.repeatL [11] 20
def kdText : List UInt8 := [72, 105, 32, 84, 104, 101, 114, 101]
def kdHex : List UInt8 := [98, 48, 51, 52, 52, 99, 54, 49, 100, 56, 100, 98, 51, 56, 53, 51, 53, 99, 97, 56, 97, 102, 99, 101, 97, 102, 48, 98, 102, 49, 50, 98, 56, 56, 49, 100, 99, 50, 48, 48, 99, 57, 56, 51, 51, 100, 97, 55, 50, 54, 101, 57, 51, 55, 54, 99, 50, 101, 51, 50, 99, 102, 102, 55]
theorem kd_vec : okR kdHex = true ∧ unhexR kdHex = macM 2 kdKey kdText := by decide +kernel

theorem repeat_11 (w : World) : Calls Try.prog 17 #[.string ⟨#[11]⟩, .int .i64 20] w (Grown (S kdKey) w) := by
  refine (Try.strings_Repeat ⟨#[11]⟩ 20 w (by omega) (by simp [ByteArray.size])).mono ?_
  rintro e w' ⟨rfl, hb⟩
  exact ⟨rfl, grow_of_below hb⟩

set_option maxHeartbeats 1000000 in
theorem code_kdfknown (w : World) : Calls Try.prog 6 #[] w (Grown (.bool true) w) := by
  have A1 := repeat_11
  have A2 : ∀ W : World, Calls Try.prog 16 #[.int .i64 2, S kdKey, S kdText] W (Grown (.tuple #[S (macM 2 kdKey kdText), .int .i64 0]) W) := fun W => code_mac W 2 (Or.inr rfl) kdKey kdText (by decide) (by decide)
  have A3 : ∀ W : World, Calls Try.prog 10 #[S kdHex] W (Grown (S (macM 2 kdKey kdText)) W) := fun W => code_bytes W kdHex _ (by decide) kd_vec.1 kd_vec.2
  generalize macM 2 kdKey kdText = V at *
  generalize kdKey = key at *
  unfold S at *
  unfold kdText at A2
  unfold kdHex at A3
  go_enter Try.func6, Try.ntmps6
  go_wp2_with fail
  (with_reducible refine (A1 _).mono ?_)
  rintro e x1 ⟨rfl, hg1⟩
  go_wp2_with fail
  (with_reducible refine (A2 _).mono ?_)
  rintro e x2 ⟨rfl, hg2⟩
  go_wp2_with fail
  (with_reducible refine (A3 _).mono ?_)
  rintro e x3 ⟨rfl, hg3⟩
  go_wp2_with fail
  go_ret
  exact ⟨rfl, grow_trans (grow_trans hg1 hg2) hg3⟩

theorem walk_KdfKnown (w : World) :
    Calls Try.prog 6 #[] w fun e w' => e = .returned (.bool true) ∧ Below w.heap.size w w' :=
  (code_kdfknown w).mono fun e w' ⟨h1, h2⟩ => ⟨h1, grow_below h2 _ (Nat.le_refl _) (by simp)⟩

end Go.Proofs.Ytgmpmbagkbgdgaa
