/- AES: New, Expand, by, Encrypt, Decrypt. -/
import Derived.Test.YtffeekfofbcobaaAesEnc
namespace Go.Proofs.Ytffeekfofbcobaa
open Go.RowKit
set_option linter.unusedVariables false

def isKeyB (key : List UInt8) : Bool := decide (key.length = 16 ∨ key.length = 32)
theorem code_isKey (w : World) (key : List UInt8) : Calls Try.prog 109 #[S key] w fun e w' => e = .returned (.bool (isKeyB key)) ∧ w = w' := by
  unfold isKeyB S
  by_cases h1 : key.length = 16
  · have q : ((key.length : Int) == 16) = true := by simp; omega
    rw [decide_eq_true (Or.inl h1)]
    clear h1
    go_enter Try.func109, Try.ntmps109
    go_wp2_with fail
    go_ret
    exact ⟨rfl, rfl⟩
  · have q : ((key.length : Int) == 16) = false := by simp; omega
    by_cases h2 : key.length = 32
    · have q2 : ((key.length : Int) == 32) = true := by simp; omega
      rw [decide_eq_true (Or.inr h2)]
      clear h1 h2
      go_enter Try.func109, Try.ntmps109
      go_wp2_with fail
      go_ret
      exact ⟨rfl, rfl⟩
    · have q2 : ((key.length : Int) == 32) = false := by simp; omega
      rw [decide_eq_false (by omega)]
      clear h1 h2
      go_enter Try.func109, Try.ntmps109
      go_wp2_with fail
      go_ret
      exact ⟨rfl, rfl⟩

/-- A new cipher of a key. -/
def NewC (w : World) (key : List UInt8) (e : Ending) (w' : World) : Prop := ∃ C T, e = .returned (.pointer (some ⟨C, 0, none⟩)) ∧ Cph w' C T (expL key) ∧ Tab w' T ∧ w.heap.size ≤ C ∧ w.heap.size ≤ T ∧ w.grownBy w' none

theorem code_new_err (w : World) (key : List UInt8) (hk : ¬ (key.length = 16 ∨ key.length = 32)) :
    Calls Try.prog 106 #[S key] w fun e w' => e = .returned (.pointer none) ∧ w = w' := by
  have H := Lib.hid (show isKeyB key = false from decide_eq_false hk)
  clear hk
  unfold S
  go_enter Try.func106, Try.ntmps106
  go_wp2_with fail
  refine (code_isKey w key).mono ?_
  rintro e w1 ⟨rfl, rfl⟩
  rw [H.out]
  go_wp2_with fail
  go_ret
  exact ⟨rfl, rfl⟩

theorem code_anew (w : World) (key : List UInt8) (hk : key.length = 16 ∨ key.length = 32) :
    Calls Try.prog 106 #[S key] w (NewC w key) := by
  have H := Lib.hid (show isKeyB key = true from decide_eq_true hk)
  have HK := Lib.hid hk
  clear hk
  unfold S
  go_enter Try.func106, Try.ntmps106
  go_wp2_with fail
  refine (code_isKey w key).mono ?_
  rintro e w1 ⟨rfl, rfl⟩
  rw [H.out]
  go_wp2_with fail
  refine (code_made _).mono ?_
  rintro e w1 ⟨T, rfl, hT1, hT2, hg1⟩
  have HT := Lib.hid hT2
  clear hT2
  go_wp2_with fail
  refine (code_expandT w1 T (key.length / 4) key HT.out (by have := HK.out; omega) (by have := HK.out; omega)).mono ?_
  rintro e w2 ⟨rfl, hg2⟩
  unfold S
  go_wp2_with fail
  go_ret
  exact ⟨_, T, rfl, obj_new w2 _, (HT.out.kept hg2 nofun).kept (World.grownBy_alloc _ _ none) nofun, (grow_trans hg1 hg2).size, hT1, grow_alloc (grow_trans hg1 hg2) _⟩

def noneE : Value := .tuple #[S [], .int .i64 1]

end Go.Proofs.Ytffeekfofbcobaa
