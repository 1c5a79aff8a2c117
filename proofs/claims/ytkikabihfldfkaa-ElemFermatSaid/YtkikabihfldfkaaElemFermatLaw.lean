/- The walk of ElemFermat. -/
import Derived.Test.YtkikabihfldfkaaElemAddsLaw
import Derived.Test.YtkikabihfldfkaaElemPowersPlain
import Derived.Test.YtkikabihfldfkaaPrime
namespace Go.Proofs.Ytkikabihfldfkaa
open Go.RowKit
set_option linter.unusedVariables false

/-- Squared so often. -/
def sqM (a : List UInt8) : Nat → List UInt8
  | 0 => a
  | i + 1 => mulM (sqM a i) (sqM a i)
theorem sqM_length (a : List UInt8) (h : a.length = 32) : ∀ i, (sqM a i).length = 32
  | 0 => h
  | i + 1 => mulM_length _ _
theorem sqM_val (a : List UInt8) : ∀ i, sqM a (i + 1) = powM a (2 ^ (i + 1))
  | 0 => by
    show mulM a a = powM a 2
    unfold mulM powM
    rw [show leN a ^ 2 = leN a * leN a from Nat.pow_two _]
  | i + 1 => by
    show mulM (sqM a (i + 1)) (sqM a (i + 1)) = _
    rw [sqM_val a i, pow_sum]
    congr 1
    rw [Nat.pow_succ 2 (i + 1)]
    omega

theorem pow_p {p : Nat} (hp : Pr.Prime p) (x : Nat) : x ^ p % p = x % p := by
  have h2 := hp.1
  by_cases h : p ∣ x
  · obtain ⟨y, rfl⟩ := h
    rw [Nat.mul_mod_right, Nat.mul_pow, show p ^ p = p * p ^ (p - 1) from by rw [← Nat.pow_succ', show (p - 1).succ = p from by omega], Nat.mul_assoc, Nat.mul_mod_right]
  · have hf := Pr.fermat hp x h
    have e : x ^ p = x ^ (p - 1) * x := by rw [← Nat.pow_succ, show (p - 1).succ = p from by omega]
    rw [e, Nat.mul_mod, hf, Nat.one_mul, Nat.mod_mod]
theorem pow_p19 {p : Nat} (hp : Pr.Prime p) (x e : Nat) (he : e = p + 19) : x ^ e % p = x ^ 20 % p := by
  rw [he, Nat.pow_add, Nat.mul_mod, pow_p hp, ← Nat.mul_mod, ← Nat.pow_succ']
theorem primePP : Pr.Prime PP := by rw [PP_eq]; exact Pr.prime25519
theorem two_e : 2 ^ (254 + 1) = PP + 19 := by
  rw [PP_eq]
  try simp only [Nat.reduceAdd, Nat.reducePow]
theorem sq_fermat (a : List UInt8) : sqM a 255 = powM a 20 := by
  have h := sqM_val a 254
  have h : sqM a 255 = powM a (2 ^ 255) := h
  rw [h]
  have q : 2 ^ 255 = PP + 19 := two_e
  generalize (2 : Nat) ^ 255 = e at *
  unfold powM
  rw [pow_p19 primePP (leN a) e q]

set_option maxRecDepth 20000 in
set_option maxHeartbeats 4000000 in
theorem walk_ElemFermat (s0 : ByteArray) (w0 : s0.size ≤ maxLen) (w : World) :
    Calls Try.prog 6 #[.string s0] w fun e w' => e = .returned (.bool true) ∧ Below w.heap.size w w' := by
  obtain ⟨a0, rfl, ha⟩ := listB s0
  unfold maxLen at w0
  rw [← ha] at w0
  have E0 := lift w (fun W => code_kElems W a0 (by omega))
  have la := sizedL_length a0 32
  generalize sizedL a0 32 = a at *
  have C0 := lift w (fun W => code_npow W a 20 (by assumption) (by omega))
  have HLA := Lib.hid la
  have hsq : sqM a 255 = powM a 20 := sq_fermat a
  have HSQ := Lib.hid hsq
  clear hsq
  clear la w0 ha
  unfold GrownH S at E0
  have hg : Hid (w.grownBy w none) := Lib.hid (grow_refl _ _)
  go_enter Try.func6, Try.ntmps6
  go_wp2_with (first
    | (go_at_call 12; (with_reducible refine (E0 _ hg).mono ?_); clear hg; rintro e x ⟨rfl, hg⟩)
    | fail)
  go_loopw [4, 15] (fun v4 vi wr => ∃ i : Nat, i ≤ 255 ∧ vi = .int .i64 i ∧ v4 = .string ⟨(sqM a i).toArray⟩ ∧ Hid (w.grownBy wr none)) (fun _ vi _ => 255 - (intOf vi).toNat)
  case atStart => exact ⟨0, by omega, rfl, rfl, hg⟩
  case round =>
    clear hg
    obtain ⟨i, hi, rfl, rfl, hg⟩ := hrel
    by_cases hli : i < 255
    · have A := lift w (fun W => code_kMul W (sqM a i) (sqM a i) (sqM_length a HLA.out i) (sqM_length a HLA.out i))
      have hs : mulM (sqM a i) (sqM a i) = sqM a (i + 1) := rfl
      rw [hs] at A
      obtain ⟨t, ht⟩ : ∃ t, t = sqM a (i + 1) := ⟨_, rfl⟩
      rw [← ht] at A
      have HT := Lib.hid ht
      clear hs ht
      generalize sqM a i = s at *
      unfold GrownH S at A
      go_wp2_with fail
      (with_reducible refine (A _ hg).mono ?_)
      clear hg
      rintro e x2 ⟨rfl, hg⟩
      go_wp2_with fail
      go_roundw
      case rel => exact ⟨i + 1, by omega, by go_num, by rw [HT.out], hg⟩
      case measure => simp [intOf]; omega
    · obtain rfl : i = 255 := by omega
      have e := HSQ.out
      rw [e]
      clear e
      obtain ⟨t, ht⟩ : ∃ t, t = powM a 20 := ⟨_, rfl⟩
      rw [← ht]
      have C1 : ∀ W : World, Hid (w.grownBy W none) → Calls Try.prog 19 #[S a, .int .u64 20] W (GrownH w (.tuple #[S t, .int .i64 0])) := by rw [ht]; exact C0
      clear C0 ht HSQ
      unfold GrownH S at C1
      go_wp2_with fail
      (with_reducible refine (C1 _ hg).mono ?_)
      clear hg
      rintro e x2 ⟨rfl, hg⟩
      go_wp2_with fail
      go_ret
      exact ⟨rfl, grow_below hg.out _ (Nat.le_refl _) (by simp)⟩

end Go.Proofs.Ytkikabihfldfkaa
