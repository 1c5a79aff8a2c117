/- AES: keys and blocks of a wrong size. -/
import Derived.Test.YtmomfbkpniblgaaGreatDoorDg17
namespace Go.Proofs.YtmomfbkpniblgaaGreatDoor
open Go.RowKit
set_option linter.unusedVariables false

theorem code_aby_err (w : World) (key text : List UInt8) (h : ¬ ((key.length = 16 ∨ key.length = 32) ∧ text.length = 16)) (f : Value) : Calls Tryz.prog 97 #[S key, S text, f] w (Grown (.tuple #[S [], .int .i64 1]) w) := by
  by_cases hk : key.length = 16 ∨ key.length = 32
  · have q : ((text.length : Int) != 16) = true := by rw [bne_iff_ne]; have := fun e => h ⟨hk, e⟩; omega
    have A := code_anew w key hk
    clear h hk
    unfold S at *
    go_enter Tryz.func97, Tryz.ntmps97
    go_wp2_with fail
    (with_reducible refine A.mono ?_)
    rintro e w1 ⟨C, T, rfl, hC, hT, hC1, hT1, hg1⟩
    clear hC hT hC1 hT1 A
    go_wp2_with fail
    go_ret2
    exact ⟨rfl, hg1⟩
  · have A := code_new_err w key hk
    clear h hk
    unfold S at *
    go_enter Tryz.func97, Tryz.ntmps97
    go_wp2_with fail
    (with_reducible refine A.mono ?_)
    rintro e w1 ⟨rfl, rfl⟩
    go_wp2_with fail
    go_ret2
    exact ⟨rfl, grow_refl _ _⟩
theorem code_aenc_err (w : World) (key text : List UInt8) (h : ¬ ((key.length = 16 ∨ key.length = 32) ∧ text.length = 16)) : Calls Tryz.prog 57 #[S key, S text] w (Grown (.tuple #[S [], .int .i64 1]) w) := by
  have A := code_aby_err w key text h (.func (.func 98) #[] #[])
  clear h
  unfold S at *
  go_enter Tryz.func57, Tryz.ntmps57
  go_wp2_with fail
  (with_reducible refine A.mono ?_)
  rintro e x ⟨rfl, hg⟩
  go_wp2_with fail
  go_ret2
  exact ⟨rfl, hg⟩
theorem code_adec_err (w : World) (key text : List UInt8) (h : ¬ ((key.length = 16 ∨ key.length = 32) ∧ text.length = 16)) : Calls Tryz.prog 58 #[S key, S text] w (Grown (.tuple #[S [], .int .i64 1]) w) := by
  have A := code_aby_err w key text h (.func (.func 99) #[] #[])
  clear h
  unfold S at *
  go_enter Tryz.func58, Tryz.ntmps58
  go_wp2_with fail
  (with_reducible refine A.mono ?_)
  rintro e x ⟨rfl, hg⟩
  go_wp2_with fail
  go_ret2
  exact ⟨rfl, hg⟩

end Go.Proofs.YtmomfbkpniblgaaGreatDoor
