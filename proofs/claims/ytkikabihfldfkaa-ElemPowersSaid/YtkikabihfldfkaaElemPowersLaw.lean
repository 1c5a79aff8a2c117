/- The walk of ElemPowers. -/
import Derived.Test.YtkikabihfldfkaaElemAddsLaw
import Derived.Test.YtkikabihfldfkaaElemPowersPlain
namespace Go.Proofs.Ytkikabihfldfkaa
open Go.RowKit
set_option linter.unusedVariables false

set_option maxRecDepth 20000 in
set_option maxHeartbeats 4000000 in
theorem walk_ElemPowers (s0 s1 : ByteArray) (x2 x3 : Int) (w0 : s0.size ≤ maxLen) (w1 : s1.size ≤ maxLen) (w2 : (Lit.int .u64 x2).wf = true) (w3 : (Lit.int .u64 x3).wf = true) (w : World) :
    Calls Try.prog 5 #[.string s0, .string s1, .int .u64 x2, .int .u64 x3] w fun e w' => e = .returned (.bool true) ∧ Below w.heap.size w w' := by
  obtain ⟨a0, rfl, ha⟩ := listB s0
  obtain ⟨b0, rfl, hb⟩ := listB s1
  unfold maxLen at w0 w1
  rw [← ha] at w0
  rw [← hb] at w1
  obtain ⟨m0, rfl, hm0⟩ : ∃ m0 : Nat, x2 = (m0 : Int) ∧ m0 < 18446744073709551616 := by
    simp only [Lit.wf, Bool.and_eq_true, decide_eq_true_eq] at w2
    have q : 0 ≤ x2 ∧ x2 ≤ 18446744073709551615 := w2
    exact ⟨x2.toNat, by omega, by omega⟩
  obtain ⟨n0, rfl, hn0⟩ : ∃ n0 : Nat, x3 = (n0 : Int) ∧ n0 < 18446744073709551616 := by
    simp only [Lit.wf, Bool.and_eq_true, decide_eq_true_eq] at w3
    have q : 0 ≤ x3 ∧ x3 ≤ 18446744073709551615 := w3
    exact ⟨x3.toNat, by omega, by omega⟩
  obtain ⟨m, hm, lm⟩ : ∃ m : Nat, (m0 : Int) / 2 = (m : Int) ∧ m < 9223372036854775808 := ⟨m0 / 2, rfl, by omega⟩
  obtain ⟨n, hn, ln⟩ : ∃ n : Nat, (n0 : Int) / 2 = (n : Int) ∧ n < 9223372036854775808 := ⟨n0 / 2, rfl, by omega⟩
  obtain ⟨k, hk, lk, hk2⟩ : ∃ k : Nat, (m : Int) + (n : Int) = (k : Int) ∧ k < 18446744073709551616 ∧ m + n = k := ⟨m + n, by omega, by omega, rfl⟩
  have E0 := lift w (fun W => code_kElems W a0 (by omega))
  have E1 : ∀ W : World, Hid (w.grownBy W none) → Calls Try.prog 13 #[S b0, .int .i64 32] W (GrownH w (S (sizedL b0 32))) := lift w (fun W => code_sized W b0 32 (by omega) (by omega))
  have la := sizedL_length a0 32
  have lb := sizedL_length b0 32
  generalize sizedL a0 32 = a at *
  generalize sizedL b0 32 = b at *
  obtain ⟨p, hp⟩ : ∃ p, p = mulM a b := ⟨_, rfl⟩
  have lp : p.length = 32 := by rw [hp]; exact mulM_length _ _
  obtain ⟨x, hx⟩ : ∃ x, x = powM a m := ⟨_, rfl⟩
  obtain ⟨y, hy⟩ : ∃ y, y = powM a n := ⟨_, rfl⟩
  obtain ⟨z, hz⟩ : ∃ z, z = powM a k := ⟨_, rfl⟩
  obtain ⟨u, hu⟩ : ∃ u, u = powM b m := ⟨_, rfl⟩
  obtain ⟨v, hv⟩ : ∃ v, v = powM p m := ⟨_, rfl⟩
  have lx : x.length = 32 := by rw [hx]; exact powM_length _ _
  have ly : y.length = 32 := by rw [hy]; exact powM_length _ _
  have lu : u.length = 32 := by rw [hu]; exact powM_length _ _
  have C0 := lift w (fun W => code_npow W a m (by assumption) (by omega))
  have C1 := lift w (fun W => code_npow W a n (by assumption) (by omega))
  have C2 := lift w (fun W => code_npow W a k (by assumption) (by omega))
  have C3 := lift w (fun W => code_npow W b m (by assumption) (by omega))
  have C4 := lift w (fun W => code_kMul W a b (by assumption) (by assumption))
  have C5 := lift w (fun W => code_npow W p m (by assumption) (by omega))
  have C6 := lift w (fun W => code_kMul W x y (by assumption) (by assumption))
  have C7 := lift w (fun W => code_kMul W x u (by assumption) (by assumption))
  have e1 : mulM x y = z := by rw [hx, hy, hz, pow_sum, hk2]
  have e2 : mulM x u = v := by rw [hx, hu, hv, hp, pow_times]
  rw [← hx] at C0
  rw [← hy] at C1
  rw [← hz] at C2
  rw [← hu] at C3
  rw [← hp] at C4
  rw [← hv] at C5
  rw [e1] at C6
  rw [e2] at C7
  clear hp hx hy hz hu hv e1 e2 la lb lp lx ly lu w0 w1 w2 w3 ha hb hk2
  unfold GrownH S at *
  have hg : Hid (w.grownBy w none) := Lib.hid (grow_refl _ _)
  have wk : IntKind.u64.wrap ((k : Nat) : Int) = (k : Int) := IntWalk.u64_in _ (by omega)
  go_enter Try.func5, Try.ntmps5
  go_wp2_with (first
    | (go_at_call 12; (with_reducible refine (E0 _ hg).mono ?_); clear hg; rintro e x ⟨rfl, hg⟩)
    | (go_at_call 13; (with_reducible refine (E1 _ hg).mono ?_); clear hg; rintro e x ⟨rfl, hg⟩)
    | (go_at_call 19; (with_reducible refine (C0 _ hg).mono ?_); clear hg; rintro e x ⟨rfl, hg⟩)
    | (go_at_call 19; (with_reducible refine (C1 _ hg).mono ?_); clear hg; rintro e x ⟨rfl, hg⟩)
    | (go_at_call 19; (with_reducible refine (C2 _ hg).mono ?_); clear hg; rintro e x ⟨rfl, hg⟩)
    | (go_at_call 19; (with_reducible refine (C3 _ hg).mono ?_); clear hg; rintro e x ⟨rfl, hg⟩)
    | (go_at_call 14; (with_reducible refine (C4 _ hg).mono ?_); clear hg; rintro e x ⟨rfl, hg⟩)
    | (go_at_call 19; (with_reducible refine (C5 _ hg).mono ?_); clear hg; rintro e x ⟨rfl, hg⟩)
    | (go_at_call 14; (with_reducible refine (C6 _ hg).mono ?_); clear hg; rintro e x ⟨rfl, hg⟩)
    | (go_at_call 14; (with_reducible refine (C7 _ hg).mono ?_); clear hg; rintro e x ⟨rfl, hg⟩)
    | fail)
  go_ret
  exact ⟨rfl, grow_below hg.out _ (Nat.le_refl _) (by simp)⟩

end Go.Proofs.Ytkikabihfldfkaa
