/-
  Several texts of this claim in one: CurvePublic, PrimeL, BaseOrder, TwicePlain, BasePlain, CurveBaseLaw.
-/
import Derived.Test.YtmceahknglkhoaaCurvePlain
import Derived.Test.YtmceahknglkhoaaZeros
import Derived.Test.YtmceahknglkhoaaSized
import Derived.Test.YtmceahknglkhoaaLift
import Derived.Test.YtmceahknglkhoaaPrime
import Derived.Test.YtmceahknglkhoaaLadTwice
import Derived.Test.YtmceahknglkhoaaCurveFact
namespace Go.Proofs.Ytmceahknglkhoaa
open Go.RowKit
set_option linter.unusedVariables false

def nineL : List UInt8 := 9 :: List.replicate 31 0
theorem nine_app : [9] ++ zerosL 31 = nineL := rfl

set_option maxHeartbeats 1000000 in
theorem code_cpublic (w : World) (k : List UInt8) (hk : k.length = 32) : Calls Try.prog 9 #[S k] w (Grown (.tuple #[S (multL k nineL), .int .i64 0]) w) := by
  have AR : ∀ W : World, Calls Try.prog 15 #[.string ⟨#[0]⟩, .int .i64 31] W (Grown (S (zerosL 31)) W) := fun W => repeat_zero W 31 (by omega)
  have AM : ∀ W : World, Calls Try.prog 7 #[S k, S (9 :: zerosL 31)] W (Grown (.tuple #[S (multL k nineL), .int .i64 0]) W) := fun W => code_cmult W k nineL hk (by decide)
  have r1 := rule_app
  have r3 : ∀ (a : List UInt8), ByteArray.mk #[9] ++ ByteArray.mk a.toArray = ⟨([9] ++ a).toArray⟩ := fun a => rule_app [9] a
  have lz : (zerosL 31).length = 31 := by decide
  generalize multL k nineL = V at *
  generalize zerosL 31 = Z at *
  have k1 : 1 + Z.length ≤ 9223372036854775807 := by omega
  have k2 : ¬ (9223372036854775807 < 1 + Z.length) := by omega
  unfold S at *
  go_enter Try.func9, Try.ntmps9
  go_wp2_with fail
  (with_reducible refine (AR _).mono ?_)
  rintro e x1 ⟨rfl, hg1⟩
  go_wp2_with fail
  (with_reducible refine (AM _).mono ?_)
  rintro e x2 ⟨rfl, hg2⟩
  go_wp2_with fail
  go_ret2
  exact ⟨rfl, grow_trans hg1 hg2⟩

end Go.Proofs.Ytmceahknglkhoaa

namespace Go.Proofs.Ytmceahknglkhoaa.Pr
theorem l1 : Prime 1224481 := prime_small _ 1106 (by decide) (by decide) (by decide +kernel)
theorem l2 : Prime 531581 := prime_small _ 729 (by decide) (by decide) (by decide +kernel)
theorem l3 : Prime 1257559732178653 := pock2 _ 1224481 1027014492 2 531581 2365697292 2 l1 l2 (by decide) (by decide) (by decide) (by decide) (by decide) (by decide +kernel) (by decide +kernel) (by decide +kernel) (by decide +kernel) (by decide)
theorem l4 : Prime 4434155615661930479 := pock1 _ 1257559732178653 3526 2 l3 (by decide) (by decide) (by decide +kernel) (by decide +kernel) (by decide)
theorem l5 : Prime 172054593956031949258510691 := pock1 _ 4434155615661930479 38802110 2 l4 (by decide) (by decide) (by decide +kernel) (by decide +kernel) (by decide)
theorem l6 : Prime 19757330305831588566944191468367130476339 := pock1 _ 172054593956031949258510691 114831751082918 2 l5 (by decide) (by decide) (by decide +kernel) (by decide +kernel) (by decide)
theorem l7 : Prime 276602624281642239937218680557139826668747 := pock1 _ 19757330305831588566944191468367130476339 14 2 l6 (by decide) (by decide) (by decide +kernel) (by decide +kernel) (by decide)
theorem l8 : Prime 7237005577332262213973186563042994240857116359379907606001950938285454250989 := pock1 _ 276602624281642239937218680557139826668747 26163907866482859529727157400808004 2 l7 (by decide) (by decide) (by decide +kernel) (by decide +kernel) (by decide)
def LL : Nat := 7237005577332262213973186563042994240857116359379907606001950938285454250989
theorem primeLL : Prime LL := l8
end Go.Proofs.Ytmceahknglkhoaa.Pr

namespace Go.Proofs.Ytmceahknglkhoaa
set_option linter.unusedVariables false
open Pr (LL)

theorem nm_gcd {D : FP} (g : Ed.Good D) (B : Ed.Pt D) : ∀ m n : Nat, Ed.nm g m B = Ed.zero D → Ed.nm g n B = Ed.zero D → Ed.nm g (Nat.gcd m n) B = Ed.zero D := by
  intro m n
  induction m, n using Nat.gcd.induction with
  | H0 n => intro _ h; rw [Nat.gcd_zero_left]; exact h
  | H1 m n hm ih =>
    intro h1 h2
    rw [Nat.gcd_rec]
    refine ih ?_ h1
    rw [← Nat.div_add_mod n m, Ed.nm_add, Nat.mul_comm, Ed.nm_mul, h1, nm_zero, Ed.zero_add] at h2
    exact h2
theorem hgt_nought {y : FP} (h : hgt y = 0) : 1 - y = 0 ∨ 1 + y = 0 := by
  by_cases e : 1 - y = 0
  · exact Or.inl e
  · right
    by_cases e2 : 1 + y = 0
    · exact e2
    · exact absurd h (Ed.mul_ne e2 (invP_ne e))
theorem sq_ne {σ : FP} (h : σ * σ = 1) : σ ≠ 0 := by
  intro e
  rw [e] at h
  exact zero_ne_oneP (by rw [← h]; clear h e; grind)
theorem sig_hgt {σ y : FP} (h : σ * σ = 1) (h0 : σ * hgt y = 0) : hgt y = 0 := by
  by_cases e : hgt y = 0
  · exact e
  · exact absurd h0 (Ed.mul_ne (sq_ne h) e)
theorem hgt_zero_pt {D : FP} : hgt (Ed.zero D).y = 0 := hgt_one (by show (1 : FP) - 1 = 0; rfl)
theorem dbl_of_hgt {D : FP} {g : Ed.Good D} (hd : 1 - D ≠ 0) {n : Nat} {B : Ed.Pt D} (h : hgt (Ed.nm g n B).y = 0) : Ed.nm g (2 * n) B = Ed.zero D := by
  rw [Ed.nm_dbl]
  exact dbl_zero hd _ (hgt_nought h)

/-- The ladder's number, reckoned. -/
def quickN (k x : Nat) : Nat :=
  let s := ladS k x 255
  if s.sw = 1 then mulP s.x3 (sqP 255 s.z3 (PP - 2)) else mulP s.x2 (sqP 255 s.z2 (PP - 2))
theorem ladN_quick (k x : Nat) : ladN k x = quickN k x := by
  unfold ladN quickN
  rw [ladOut_eq]
set_option maxRecDepth 100000 in
theorem base_l : ladN LL 9 % PP = 0 := by
  rw [ladN_quick]
  decide +kernel
set_option maxRecDepth 100000 in
theorem base_2 : ladN 2 9 % PP ≠ 0 := by
  rw [ladN_quick]
  decide +kernel
theorem nine_ok : 9 % PP ≠ 0 ∧ (9 + 1) % PP ≠ 0 := by
  rw [PP_eq]
  omega
theorem base_at : ∃ (D : FP) (g : Ed.Good D) (σ : FP) (B : Ed.Pt D), At g σ (fi 9) B :=
  has_pt (u := fi 9) (fun e => nine_ok.1 (fi_zero.1 e)) (fun e => nine_ok.2 (by rw [← fi_succ] at e; exact fi_zero.1 e))
theorem LL_lt : LL < 2 ^ 255 := by unfold LL; decide +kernel
theorem LL_odd : Nat.gcd 2 LL = 1 := by unfold LL; decide +kernel
theorem gcd_two (n : Nat) (h : ¬ LL ∣ n) : Nat.gcd (2 * n) (2 * LL) = 2 := by
  rw [Nat.gcd_mul_left]
  have : Nat.gcd n LL = 1 := by
    rw [Nat.gcd_comm]
    exact Pr.primeLL.coprime h
  rw [this]
theorem base_ord {D : FP} {g : Ed.Good D} {σ : FP} {B : Ed.Pt D} (a : At g σ (fi 9) B) (n : Nat) (h : ¬ LL ∣ n) : hgt (Ed.nm g n B).y ≠ 0 := by
  intro e
  have h1 := dbl_of_hgt a.d1 e
  have hl := a.num (x := 9) rfl LL LL_lt
  rw [fi_zero.2 base_l] at hl
  have h2 := dbl_of_hgt a.d1 (sig_hgt a.kit.sq hl.symm)
  have h3 := nm_gcd g B _ _ h1 h2
  rw [gcd_two n h] at h3
  have h4 := a.num (x := 9) rfl 2 (by decide)
  rw [h3, hgt_zero_pt] at h4
  apply base_2
  apply fi_zero.1
  rw [h4]
  clear hl h1 h2 h3 h4 e h
  grind
theorem fine_k {k : Nat} (h8 : k % 8 = 0) (h0 : 0 < k) (hk : k < 2 ^ 255) : ¬ LL ∣ k := by
  intro hd
  have h2 : k = 8 * (k / 8) := by omega
  rw [h2] at hd
  rcases Pr.primeLL.dvd_mul hd with h | h
  · have := Nat.le_of_dvd (by omega) h
    unfold LL at this
    omega
  · have := Nat.le_of_dvd (by omega) h
    unfold LL at this
    omega
theorem base_once {k : Nat} (h8 : k % 8 = 0) (h0 : 0 < k) (hk : k < 2 ^ 255) : ladN k 9 % PP ≠ 0 := by
  obtain ⟨D, g, σ, B, a⟩ := base_at
  intro e
  have h := a.num (x := 9) rfl k hk
  rw [fi_zero.2 e] at h
  exact base_ord a k (fine_k h8 h0 hk) (sig_hgt a.kit.sq h.symm)
theorem base_again {j k : Nat} (j8 : j % 8 = 0) (j0 : 0 < j) (hj : j < 2 ^ 255) (h8 : k % 8 = 0) (h0 : 0 < k) (hk : k < 2 ^ 255) : ladN j (ladN k 9) % PP ≠ 0 := by
  obtain ⟨D, g, σ, B, a⟩ := base_at
  intro e
  have h := a.again (x := 9) rfl hj hk j8
  rw [fi_zero.2 e, ← Ed.nm_mul] at h
  refine base_ord a (j * k) (fun hd => ?_) (sig_hgt a.kit.sq h.symm)
  rcases Pr.primeLL.dvd_mul hd with q | q
  · exact fine_k j8 j0 hj q
  · exact fine_k h8 h0 hk q
end Go.Proofs.Ytmceahknglkhoaa

namespace Go.Proofs.Ytmceahknglkhoaa
set_option linter.unusedVariables false

theorem lad_mone (k x : Nat) (hk : k % 8 = 0) (h : (x + 1) % PP = 0) : ladN k x % PP = 0 := by
  have hx : x % PP = 57896044618658097711785492504343953926634992332820282019728792003956564819948 % PP := by
    rw [PP_eq] at h ⊢
    omega
  rw [ladN_lik k hx, ends_nought lowT2_ok.1 lowT2_ok.2 rfl ⟨rfl, rfl, rfl, rfl, rfl⟩ k hk, Nat.zero_mod]
theorem lad_twice' (ka kb x : Nat) (ha : ka < 2 ^ 255) (hb : kb < 2 ^ 255) (ha8 : ka % 8 = 0) (hb8 : kb % 8 = 0) : ladN ka (ladN kb x) % PP = ladN kb (ladN ka x) % PP := by
  by_cases h1 : (x + 1) % PP = 0
  · rw [lad_zero ka _ ha8 (lad_mone kb x hb8 h1), lad_zero kb _ hb8 (lad_mone ka x ha8 h1)]
  · exact lad_twice ka kb x ha hb ha8 hb8 h1
theorem mult_in (k : List UInt8) (n : Nat) : multL k (leB (n % PP) 32) = leB (ladN (leN (clampL k)) n % PP) 32 := by
  have key := ladN_lik (leN (clampL k)) (red_least n)
  unfold multL
  rw [key]
theorem mult_twice (a b u : List UInt8) (ha : a.length = 32) (hb : b.length = 32) (hca : leN (clampL a) < 2 ^ 255) (hcb : leN (clampL b) < 2 ^ 255) : multL b (multL a u) = multL a (multL b u) := by
  have e1 : multL a u = leB (ladN (leN (clampL a)) (leN (maskL u)) % PP) 32 := rfl
  have e2 : multL b u = leB (ladN (leN (clampL b)) (leN (maskL u)) % PP) 32 := rfl
  rw [e1, e2, mult_in, mult_in, lad_twice' _ _ _ hcb hca (clamp_eight b hb) (clamp_eight a ha)]
end Go.Proofs.Ytmceahknglkhoaa

namespace Go.Proofs.Ytmceahknglkhoaa
set_option linter.unusedVariables false

theorem top_lt (c : UInt8) : (c &&& 127 ||| 64).toNat < 128 := by
  have : ∀ n : Fin 256, (UInt8.ofNat n.val &&& 127 ||| 64).toNat < 128 := by decide +kernel
  have h := this ⟨c.toNat, c.toNat_lt⟩
  simpa using h
theorem top_ge (c : UInt8) : 0 < (c &&& 127 ||| 64).toNat := by
  have : ∀ n : Fin 256, 0 < (UInt8.ofNat n.val &&& 127 ||| 64).toNat := by decide +kernel
  have h := this ⟨c.toNat, c.toNat_lt⟩
  rwa [UInt8.ofNat_toNat] at h
theorem clamp_in (k : List UInt8) (hk : k.length = 32) : leN (clampL k) < 2 ^ 255 ∧ 0 < leN (clampL k) := by
  have hl : (clampL k).length = 32 := by rw [clampL_length, hk]
  have h31 : (clampL k)[31]'(by omega) = (k.getD 31 0 &&& 127 ||| 64) := by
    unfold clampL
    rw [List.getElem_set_self]
  have e : clampL k = (clampL k).take 31 ++ [k.getD 31 0 &&& 127 ||| 64] := by
    rw [← h31, ← List.take_succ_eq_append_getElem (by omega), List.take_of_length_le (by omega)]
  have l31 : ((clampL k).take 31).length = 31 := by rw [List.length_take]; omega
  have h1 := leN_lt ((clampL k).take 31)
  have h2 := top_lt (k.getD 31 0)
  have h3 := top_ge (k.getD 31 0)
  rw [e, leN_snoc]
  rw [l31] at h1 ⊢
  have p : (2 : Nat) ^ 255 = 128 * 256 ^ 31 := by decide +kernel
  rw [p]
  have q0 : 0 < (256 : Nat) ^ 31 := Nat.pow_pos (by omega)
  generalize (256 : Nat) ^ 31 = q at *
  generalize (k.getD 31 0 &&& 127 ||| 64).toNat = c at *
  have := Nat.mul_le_mul_right q (show c ≤ 127 by omega)
  have := Nat.mul_le_mul_right q (show 1 ≤ c by omega)
  omega
theorem nine_num : leN (maskL nineL) = 9 := by decide +kernel
theorem leB_ne {n : Nat} (h : n % PP ≠ 0) : leB (n % PP) 32 ≠ leB 0 32 := by
  intro e
  have h2 := congrArg leN e
  rw [leN_leB, leN_leB] at h2
  have hlt := Nat.mod_lt n PP_pos
  have hp : PP < 256 ^ 32 := by rw [PP_eq]; decide +kernel
  rw [Nat.mod_eq_of_lt (by omega), Nat.zero_mod] at h2
  exact h h2
theorem nine_once (k : List UInt8) (hk : k.length = 32) : multL k nineL ≠ leB 0 32 := by
  unfold multL
  rw [nine_num]
  exact leB_ne (base_once (clamp_eight k hk) (clamp_in k hk).2 (clamp_in k hk).1)
theorem nine_again (a b : List UInt8) (ha : a.length = 32) (hb : b.length = 32) : multL a (multL b nineL) ≠ leB 0 32 := by
  have e2 : multL b nineL = leB (ladN (leN (clampL b)) (leN (maskL nineL)) % PP) 32 := rfl
  rw [e2, mult_in, nine_num]
  exact leB_ne (base_again (clamp_eight a ha) (clamp_in a ha).2 (clamp_in a ha).1 (clamp_eight b hb) (clamp_in b hb).2 (clamp_in b hb).1)
end Go.Proofs.Ytmceahknglkhoaa

namespace Go.Proofs.Ytmceahknglkhoaa
open Go.RowKit
set_option linter.unusedVariables false

theorem sized_nine : sizedL [9] 32 = nineL := by decide
theorem zeros_leB : zerosL 32 = leB 0 32 := by decide

set_option maxRecDepth 100000 in
set_option maxHeartbeats 4000000 in
theorem walk_CurveBase (s0 : ByteArray) (w0 : s0.size ≤ maxLen) (w : World) :
    Calls Try.prog 4 #[.string s0] w fun e w' => e = .returned (.bool true) ∧ Below w.heap.size w w' := by
  obtain ⟨k0, rfl, hk0⟩ := listB s0
  unfold maxLen at w0
  rw [← hk0] at w0
  have AK : ∀ W : World, Calls Try.prog 6 #[S k0, .int .i64 32] W (Grown (S (sizedL k0 32)) W) := fun W => code_sized W k0 32 (by omega) (by omega)
  have lk := sizedL_length k0 32
  generalize sizedL k0 32 = k at *
  have P1 := fun W : World => code_cpublic W k lk
  have A9 : ∀ W : World, Calls Try.prog 6 #[.string ⟨#[9]⟩, .int .i64 32] W (Grown (S nineL) W) := fun W => by
    have := code_sized W [9] 32 (by decide) (by omega)
    rwa [sized_nine] at this
  have M1 := fun W : World => code_cmult W k nineL lk (by decide)
  have AZ : ∀ W : World, Calls Try.prog 10 #[.int .i64 32] W (Grown (S (zerosL 32)) W) := fun W => code_zeros W 32 (by omega)
  have hne : multL k nineL ≠ zerosL 32 := by rw [zeros_leB]; exact nine_once k lk
  have hl : (multL k nineL).length = 32 := multL_length _ _
  clear w0 hk0 lk
  generalize multL k nineL = V at *
  generalize zerosL 32 = Z at *
  generalize nineL = N at *
  have q1 : ((V.length : Int) == 32) = true := by rw [hl]; rfl
  have q2 : (V == Z) = false := beq_eq_false_iff_ne.2 hne
  unfold S at *
  go_enter Try.func4, Try.ntmps4
  go_wp2_with fail
  (with_reducible refine (AK _).mono ?_)
  rintro e y1 ⟨rfl, g1⟩
  go_wp2_with fail
  (with_reducible refine (P1 _).mono ?_)
  rintro e y2 ⟨rfl, g2⟩
  replace g2 := grow_trans g1 g2
  go_wp2_with fail
  (with_reducible refine (A9 _).mono ?_)
  rintro e y3 ⟨rfl, g3⟩
  replace g3 := grow_trans g2 g3
  go_wp2_with fail
  (with_reducible refine (M1 _).mono ?_)
  rintro e y4 ⟨rfl, g4⟩
  replace g4 := grow_trans g3 g4
  go_wp2_with fail
  (with_reducible refine (AZ _).mono ?_)
  rintro e y5 ⟨rfl, g5⟩
  have HG := Lib.hid (grow_trans g4 g5)
  clear g1 g2 g3 g4 g5 AK P1 A9 M1 AZ
  go_wp2_with fail
  go_ret
  exact ⟨rfl, grow_below HG.out _ (Nat.le_refl _) (by simp)⟩

end Go.Proofs.Ytmceahknglkhoaa
