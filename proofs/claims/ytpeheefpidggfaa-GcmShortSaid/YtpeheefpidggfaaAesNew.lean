/- AES: New, Expand, by, Encrypt, Decrypt. -/
import Derived.Test.YtpeheefpidggfaaAesDec
namespace Go.Proofs.Ytpeheefpidggfaa
open Go.RowKit
set_option linter.unusedVariables false

def isKeyB (key : List UInt8) : Bool := decide (key.length = 16 ∨ key.length = 32)
theorem code_isKey (w : World) (key : List UInt8) : Calls Try.prog 26 #[S key] w fun e w' => e = .returned (.bool (isKeyB key)) ∧ w = w' := by
  unfold isKeyB S
  by_cases h1 : key.length = 16
  · have q : ((key.length : Int) == 16) = true := by simp; omega
    rw [decide_eq_true (Or.inl h1)]
    clear h1
    go_enter Try.func26, Try.ntmps26
    go_wp2_with fail
    go_ret
    exact ⟨rfl, rfl⟩
  · have q : ((key.length : Int) == 16) = false := by simp; omega
    by_cases h2 : key.length = 32
    · have q2 : ((key.length : Int) == 32) = true := by simp; omega
      rw [decide_eq_true (Or.inr h2)]
      clear h1 h2
      go_enter Try.func26, Try.ntmps26
      go_wp2_with fail
      go_ret
      exact ⟨rfl, rfl⟩
    · have q2 : ((key.length : Int) == 32) = false := by simp; omega
      rw [decide_eq_false (by omega)]
      clear h1 h2
      go_enter Try.func26, Try.ntmps26
      go_wp2_with fail
      go_ret
      exact ⟨rfl, rfl⟩

theorem code_expand_err (w : World) (key : List UInt8) (hk : ¬ (key.length = 16 ∨ key.length = 32)) :
    Calls Try.prog 12 #[S key] w fun e w' => e = .returned (.tuple #[S [], .int .i64 1]) ∧ w = w' := by
  have H := Lib.hid (show isKeyB key = false from decide_eq_false hk)
  clear hk
  unfold S
  go_enter Try.func12, Try.ntmps12
  go_wp2_with fail
  refine (code_isKey w key).mono ?_
  rintro e w1 ⟨rfl, rfl⟩
  rw [H.out]
  go_wp2_with fail
  go_ret2
  exact ⟨rfl, rfl⟩

theorem code_expand (w : World) (key : List UInt8) (hk : key.length = 16 ∨ key.length = 32) :
    Calls Try.prog 12 #[S key] w fun e w' => e = .returned (.tuple #[S (expL key), .int .i64 0]) ∧ w.grownBy w' none := by
  have H := Lib.hid (show isKeyB key = true from decide_eq_true hk)
  have HK := Lib.hid hk
  clear hk
  unfold S
  go_enter Try.func12, Try.ntmps12
  go_wp2_with fail
  refine (code_isKey w key).mono ?_
  rintro e w1 ⟨rfl, rfl⟩
  rw [H.out]
  go_wp2_with fail
  refine (code_made _).mono ?_
  rintro e w1 ⟨T, rfl, hT1, hT2, hg1⟩
  have HT := Lib.hid hT2
  clear hT2
  go_wp2_with fail
  refine (code_expandT w1 T (key.length / 4) key HT.out (by have := HK.out; omega) (by have := HK.out; omega)).mono ?_
  rintro e w2 ⟨rfl, hg2⟩
  unfold S
  go_wp2_with fail
  go_ret2
  exact ⟨rfl, grow_trans hg1 hg2⟩

/-- A new cipher of a key. -/
def NewC (w : World) (key : List UInt8) (e : Ending) (w' : World) : Prop := ∃ C T, e = .returned (.pointer (some ⟨C, 0, none⟩)) ∧ Cph w' C T (expL key) ∧ Tab w' T ∧ w.heap.size ≤ C ∧ w.heap.size ≤ T ∧ w.grownBy w' none

theorem code_new_err (w : World) (key : List UInt8) (hk : ¬ (key.length = 16 ∨ key.length = 32)) :
    Calls Try.prog 44 #[S key] w fun e w' => e = .returned (.pointer none) ∧ w = w' := by
  have H := Lib.hid (show isKeyB key = false from decide_eq_false hk)
  clear hk
  unfold S
  go_enter Try.func44, Try.ntmps44
  go_wp2_with fail
  refine (code_isKey w key).mono ?_
  rintro e w1 ⟨rfl, rfl⟩
  rw [H.out]
  go_wp2_with fail
  go_ret
  exact ⟨rfl, rfl⟩

theorem code_new (w : World) (key : List UInt8) (hk : key.length = 16 ∨ key.length = 32) :
    Calls Try.prog 44 #[S key] w (NewC w key) := by
  have H := Lib.hid (show isKeyB key = true from decide_eq_true hk)
  have HK := Lib.hid hk
  clear hk
  unfold S
  go_enter Try.func44, Try.ntmps44
  go_wp2_with fail
  refine (code_isKey w key).mono ?_
  rintro e w1 ⟨rfl, rfl⟩
  rw [H.out]
  go_wp2_with fail
  refine (code_made _).mono ?_
  rintro e w1 ⟨T, rfl, hT1, hT2, hg1⟩
  have HT := Lib.hid hT2
  clear hT2
  go_wp2_with fail
  refine (code_expandT w1 T (key.length / 4) key HT.out (by have := HK.out; omega) (by have := HK.out; omega)).mono ?_
  rintro e w2 ⟨rfl, hg2⟩
  unfold S
  go_wp2_with fail
  go_ret
  exact ⟨_, T, rfl, obj_new w2 _, (HT.out.kept hg2 nofun).kept (World.grownBy_alloc _ _ none) nofun, (grow_trans hg1 hg2).size, hT1, grow_alloc (grow_trans hg1 hg2) _⟩

def noneE : Value := .tuple #[S [], .int .i64 1]

theorem code_aenc (w : World) (key text : List UInt8) (hk : key.length = 16 ∨ key.length = 32) (ht : text.length = 16) :
    Calls Try.prog 15 #[S key, S text] w fun e w' => e = .returned (.tuple #[S (encL key text), .int .i64 0]) ∧ w.grownBy w' none := by
  have hby : Calls Try.prog 31 #[S key, S text, .func (.func 32) #[] #[]] w fun e w' => e = .returned (.tuple #[S (encL key text), .int .i64 0]) ∧ w.grownBy w' none := by
    have q : ((text.length : Int) != 16) = false := by simp; omega
    have HT := Lib.hid ht
    have HK := Lib.hid hk
    clear ht hk
    unfold S
    go_enter Try.func31, Try.ntmps31
    go_wp2_with fail
    refine (code_new w key HK.out).mono ?_
    rintro e w1 ⟨C, T, rfl, hC, hT, hC1, hT1, hg1⟩
    have HC := Lib.hid hC
    have HTT := Lib.hid hT
    clear hC hT
    go_wp2_with fail
    refine (code_encT w1 C T (key.length / 4 + 6) (expL key) text HC.out HTT.out HT.out (by rw [(expL_pre key HK.out).1]) (by omega) (by have := HK.out; omega)).mono ?_
    rintro e w2 ⟨rfl, hg2⟩
    unfold S
    go_wp2_with fail
    go_ret2
    exact ⟨rfl, grow_trans hg1 hg2⟩
  have HB := Lib.hid hby
  clear hby hk ht
  unfold S at *
  go_enter Try.func15, Try.ntmps15
  go_wp2_with fail
  refine HB.out.mono ?_
  rintro e w1 ⟨rfl, hg⟩
  go_wp2_with fail
  go_ret2
  exact ⟨rfl, hg⟩

theorem code_adec (w : World) (key text : List UInt8) (hk : key.length = 16 ∨ key.length = 32) (ht : text.length = 16) :
    Calls Try.prog 18 #[S key, S text] w fun e w' => e = .returned (.tuple #[S (decL key text), .int .i64 0]) ∧ w.grownBy w' none := by
  have hby : Calls Try.prog 31 #[S key, S text, .func (.func 34) #[] #[]] w fun e w' => e = .returned (.tuple #[S (decL key text), .int .i64 0]) ∧ w.grownBy w' none := by
    have q : ((text.length : Int) != 16) = false := by simp; omega
    have HT := Lib.hid ht
    have HK := Lib.hid hk
    clear ht hk
    unfold S
    go_enter Try.func31, Try.ntmps31
    go_wp2_with fail
    refine (code_new w key HK.out).mono ?_
    rintro e w1 ⟨C, T, rfl, hC, hT, hC1, hT1, hg1⟩
    have HC := Lib.hid hC
    have HTT := Lib.hid hT
    clear hC hT
    go_wp2_with fail
    refine (code_decT w1 C T (key.length / 4 + 6) (expL key) text HC.out HTT.out HT.out (by rw [(expL_pre key HK.out).1]) (by omega) (by have := HK.out; omega)).mono ?_
    rintro e w2 ⟨rfl, hg2⟩
    unfold S
    go_wp2_with fail
    go_ret2
    exact ⟨rfl, grow_trans hg1 hg2⟩
  have HB := Lib.hid hby
  clear hby hk ht
  unfold S at *
  go_enter Try.func18, Try.ntmps18
  go_wp2_with fail
  refine HB.out.mono ?_
  rintro e w1 ⟨rfl, hg⟩
  go_wp2_with fail
  go_ret2
  exact ⟨rfl, hg⟩

end Go.Proofs.Ytpeheefpidggfaa
