/- The walk of KdfKeys. -/
import Derived.Test.YtgmpmbagkbgdgaaKdfKnownLaw
namespace Go.Proofs.Ytgmpmbagkbgdgaa
open Go.RowKit
set_option linter.unusedVariables false

theorem sized_zeros (key : List UInt8) (n : Nat) (h : key.length + n ≤ 64) : sizedL (key ++ zerosL n) 64 = sizedL key 64 := by
  unfold sizedL
  rw [List.take_of_length_le (by rw [List.length_append, zerosL_length]; omega), List.take_of_length_le (by omega), List.append_assoc, List.length_append, zerosL_length]
  congr 1
  unfold zerosL
  rw [List.replicate_append_replicate, show n + (64 - (key.length + n)) = 64 - key.length from by omega]
theorem mac_zeros (suite : Nat) (key s : List UInt8) (n : Nat) (h : key.length + n ≤ 64) : macM suite (key ++ zerosL n) s = macM suite key s := by
  have e1 : keyM suite (key ++ zerosL n) = key ++ zerosL n := by unfold keyM; rw [if_neg (by rw [List.length_append, zerosL_length]; omega)]
  have e2 : keyM suite key = key := by unfold keyM; rw [if_neg (by omega)]
  unfold macM padM
  rw [e1, e2, sized_zeros key n h]
theorem mac_long (suite : Nat) (key s : List UInt8) (h : 64 < key.length) : macM suite (hashM suite key) s = macM suite key s := by
  have e1 : keyM suite (hashM suite key) = hashM suite key := by unfold keyM; rw [if_neg (by rw [hashM_length]; omega)]
  have e2 : keyM suite key = hashM suite key := by unfold keyM; rw [if_pos h]
  unfold macM
  rw [e1, e2]

set_option maxHeartbeats 2000000 in
theorem walk_KdfKeys (x0 : Int) (s1 s2 : ByteArray) (x3 : Int) (w0 : (Lit.int .i64 x0).wf = true) (w1 : s1.size ≤ maxLen) (w2 : s2.size ≤ maxLen) (w3 : (Lit.int .i64 x3).wf = true) (w : World)
    (z1 : s1.size ≤ 140737488351232) (z2 : s2.size ≤ 140737488351232) :
    Calls Try.prog 7 #[.int .i64 x0, .string s1, .string s2, .int .i64 x3] w fun e w' => e = .returned (.bool true) ∧ Below w.heap.size w w' := by
  obtain ⟨key, rfl, hk⟩ := listB s1
  obtain ⟨s, rfl, hs⟩ := listB s2
  rw [← hk] at z1
  rw [← hs] at z2
  clear w1 w2 hk hs
  simp only [Lit.wf, Bool.and_eq_true, decide_eq_true_eq] at w0 w3
  have w0' : -9223372036854775808 ≤ x0 ∧ x0 ≤ 9223372036854775807 := w0
  have w3' : -9223372036854775808 ≤ x3 ∧ x3 ≤ 9223372036854775807 := w3
  clear w0 w3
  obtain ⟨r, hr, hr2⟩ : ∃ r : Nat, x0 % 2 = (r : Int) ∧ r < 2 := ⟨(x0 % 2).toNat, by omega, by omega⟩
  have RS : ∀ W : World, Calls Try.prog 18 #[.int .i64 x0, .int .i64 2] W fun e w' => e = .returned (.int .i64 (r : Int)) ∧ W = w' := fun W => by
    have := rest_any x0 2 W w0'.1 w0'.2 (by omega) (by omega)
    rw [hr] at this
    exact this
  obtain ⟨su, hsu, hsu12⟩ : ∃ su : Nat, (1 : Int) + (r : Int) = (su : Int) ∧ (su = 1 ∨ su = 2) := ⟨1 + r, by omega, by omega⟩
  have A1 := lift w (fun W => code_mac W su hsu12 key s (by omega) (by omega))
  have lm := macM_length su key s
  have K0 := lift w (fun W => code_kdfknown W)
  have hg : Hid (w.grownBy w none) := Lib.hid (grow_refl _ _)
  have r1 := rule_app
  by_cases hl : key.length ≤ 64
  · obtain ⟨m, hm, hm1⟩ : ∃ m : Nat, (65 : Int) - (key.length : Int) = (m : Int) ∧ m + key.length = 65 := ⟨65 - key.length, by omega, by omega⟩
    obtain ⟨n, hn, hn2⟩ : ∃ n : Nat, x3 % (m : Int) = (n : Int) ∧ n < m := ⟨(x3 % (m : Int)).toNat, by have := Int.emod_nonneg x3 (b := (m : Int)) (by omega); omega, by have := Int.emod_lt_of_pos x3 (b := (m : Int)) (by omega); have := Int.emod_nonneg x3 (b := (m : Int)) (by omega); omega⟩
    have RM : ∀ W : World, Calls Try.prog 18 #[.int .i64 x3, .int .i64 (m : Int)] W fun e w' => e = .returned (.int .i64 (n : Int)) ∧ W = w' := fun W => by
      have := rest_any x3 m W w3'.1 w3'.2 (by omega) (by omega)
      rw [hn] at this
      exact this
    have Z := lift w (fun W => code_zeros W n (by omega))
    have lz := zerosL_length n
    have A2 := lift w (fun W => code_mac W su hsu12 (key ++ zerosL n) s (by rw [List.length_append]; omega) (by omega))
    rw [mac_zeros su key s n (by omega)] at A2
    have k1 : (key.length : Int) ≤ 64 := by omega
    have k2 : key.length + (zerosL n).length ≤ 9223372036854775807 := by omega
    generalize macM su key s = V at *
    generalize zerosL n = Zn at *
    have hV1 : ((V.length : Int) != 32) = false := by rw [lm]; rfl
    have su2 : su ≤ 2 := by omega
    have m65 : m ≤ 65 := by omega
    have n64 : n ≤ 64 := by omega
    clear hn hr hm1 hn2 hr2 w0' w3' z1 z2 hsu12 lz
    unfold GrownH S at *
    have LM := Lib.hid lm
    go_enter Try.func7, Try.ntmps7
    go_wp2_with fail
    (with_reducible refine (RS _).mono ?_)
    rintro e y ⟨rfl, rfl⟩
    clear RS
    go_wp2_with (first
      | (go_at_call 16; (with_reducible refine (A1 _ hg).mono ?_); clear hg; rintro e x ⟨rfl, hg⟩)
      | (go_at_call 6; (with_reducible refine (K0 _ hg).mono ?_); clear hg; rintro e x ⟨rfl, hg⟩)
      | (go_at_call 19; (with_reducible refine (Z _ hg).mono ?_); clear hg; rintro e x ⟨rfl, hg⟩)
      | (go_at_call 16; (with_reducible refine (A2 _ hg).mono ?_); clear hg; rintro e x ⟨rfl, hg⟩)
      | (go_at_call 18; (with_reducible refine (RM _).mono ?_); rintro e y ⟨rfl, rfl⟩)
      | fail)
    go_ret
    exact ⟨rfl, grow_below hg.out _ (Nat.le_refl _) (by simp)⟩
  · have KS := lift w (fun W => code_ksum W su hsu12 key (by omega))
    have lh := hashM_length su key
    have A2 := lift w (fun W => code_mac W su hsu12 (hashM su key) s (by omega) (by omega))
    rw [mac_long su key s (by omega)] at A2
    have k1 : ¬ ((key.length : Int) ≤ 64) := by omega
    generalize macM su key s = V at *
    generalize hashM su key = Hk at *
    have su2 : su ≤ 2 := by omega
    clear hr hr2 w0' w3' z1 z2 hsu12 lh
    unfold GrownH S at *
    go_enter Try.func7, Try.ntmps7
    go_wp2_with fail
    (with_reducible refine (RS _).mono ?_)
    rintro e y ⟨rfl, rfl⟩
    clear RS
    go_wp2_with (first
      | (go_at_call 16; (with_reducible refine (A1 _ hg).mono ?_); clear hg; rintro e x ⟨rfl, hg⟩)
      | (go_at_call 6; (with_reducible refine (K0 _ hg).mono ?_); clear hg; rintro e x ⟨rfl, hg⟩)
      | (go_at_call 20; (with_reducible refine (KS _ hg).mono ?_); clear hg; rintro e x ⟨rfl, hg⟩)
      | (go_at_call 16; (with_reducible refine (A2 _ hg).mono ?_); clear hg; rintro e x ⟨rfl, hg⟩)
      | fail)
    go_ret
    exact ⟨rfl, grow_below hg.out _ (Nat.le_refl _) (by simp)⟩

end Go.Proofs.Ytgmpmbagkbgdgaa
