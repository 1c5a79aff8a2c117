/- The walks of SealShort, SealKnown, SealLong. -/
import Derived.Test.YtfdbnkbnfappfaaSealLaws
namespace Go.Proofs.Ytfdbnkbnfappfaa
open Go.RowKit
set_option linter.unusedVariables false

set_option maxHeartbeats 4000000 in
theorem walk_SealShort (s0 s1 s2 s3 : ByteArray) (w0 : s0.size ≤ maxLen) (w1 : s1.size ≤ maxLen) (w2 : s2.size ≤ maxLen) (w3 : s3.size ≤ maxLen) (w : World) :
    Calls Try.prog 11 #[.string s0, .string s1, .string s2, .string s3] w fun e w' => e = .returned (.bool true) ∧ Below w.heap.size w w' := by
  obtain ⟨k, rfl, hk⟩ := listB s0
  obtain ⟨o, rfl, ho⟩ := listB s1
  obtain ⟨m, rfl, hm⟩ := listB s2
  obtain ⟨t, rfl, ht⟩ := listB s3
  unfold maxLen at w0 w1 w2 w3
  rw [← hk] at w0
  rw [← ho] at w1
  rw [← hm] at w2
  rw [← ht] at w3
  clear hk ho hm ht
  have A1 : ∀ W : World, Calls Try.prog 20 #[.string ⟨k.toArray⟩, .int .i64 32] W (Grown (S (sizedL k 32)) W) := fun W => code_sized W k 32 w0 (by omega)
  have A2 : ∀ W : World, Calls Try.prog 20 #[.string ⟨o.toArray⟩, .int .i64 12] W (Grown (S (sizedL o 12)) W) := fun W => code_sized W o 12 w1 (by omega)
  have A3 : ∀ W : World, Calls Try.prog 20 #[.string ⟨m.toArray⟩, .int .i64 20] W (Grown (S (sizedL m 20)) W) := fun W => code_sized W m 20 w2 (by omega)
  have kl := sizedL_length k 32
  have ol := sizedL_length o 12
  have ml := sizedL_length m 20
  generalize sizedL k 32 = K at *
  generalize sizedL o 12 = O at *
  generalize sizedL m 20 = M at *
  obtain ⟨n, n15, nt, hmin⟩ : ∃ n : Nat, n ≤ 15 ∧ n ≤ t.length ∧ min (t.length : Int) 15 = (n : Int) := ⟨min t.length 15, by omega, by omega, by omega⟩
  have B1 : ∀ W : World, Calls Try.prog 29 #[S K, S O, S M, S (t.take n)] W fun e w' => e = .returned (noTextE 4) ∧ W = w' := fun W => code_open_short W K O M (t.take n) kl ol (by omega) (by rw [List.length_take]; omega)
  obtain ⟨z, hz⟩ : ∃ z : Int, z = if k.length = 32 ∧ o.length = 12 then 4 else 1 := ⟨_, rfl⟩
  have B2 : ∀ W : World, Calls Try.prog 29 #[S k, S o, S [], S []] W fun e w' => e = .returned (noTextE z) ∧ W = w' := fun W => by
    rw [hz]
    by_cases h : k.length = 32 ∧ o.length = 12
    · rw [if_pos h]
      exact code_open_short W k o [] [] h.1 h.2 (by simp) (by simp)
    · rw [if_neg h]
      exact code_open_err W k o [] [] 1 (by unfold checkE; rw [if_neg h]) (by rfl)
  have b0 : (0 : Int) ≤ (n : Int) := by omega
  have b1 : (n : Int) ≤ (t.length : Int) := by omega
  have r2 := rule_ext
  unfold S noTextE at *
  clear kl ol ml w0 w1 w2 w3
  by_cases h1 : k.length = 32
  · have q1 : ((k.length : Int) != 32) = false := by simp; omega
    by_cases h2 : o.length = 12
    · have q2 : ((o.length : Int) != 12) = false := by simp; omega
      obtain rfl : z = 4 := by rw [hz, if_pos ⟨h1, h2⟩]
      clear h1 h2 hz
      go_enter Try.func11, Try.ntmps11
      go_wp2_with fail
      go_region_with (first
        | (go_at_call 20; (with_reducible refine (A1 _).mono ?_); rintro e x1 ⟨rfl, hg1⟩)
        | (go_at_call 20; (with_reducible refine (A2 _).mono ?_); rintro e x2 ⟨rfl, hg2⟩)
        | (go_at_call 20; (with_reducible refine (A3 _).mono ?_); rintro e x3 ⟨rfl, hg3⟩)
        | (go_at_call 29; (with_reducible refine (B1 _).mono ?_); rintro e x4 ⟨rfl, rfl⟩))
      all_goals
        unfold S
        go_wp2_with fail
        refine (B2 _).mono ?_
        rintro e x5 ⟨rfl, rfl⟩
        unfold S
        go_wp2_with fail
        go_ret
        exact ⟨rfl, grow_below (grow_trans (grow_trans (grow_trans (grow_drew (grow_refl w none)) hg1) hg2) hg3) _ (Nat.le_refl _) (by simp)⟩
    · have q2 : ((o.length : Int) != 12) = true := by simp; omega
      obtain rfl : z = 1 := by rw [hz, if_neg (by omega)]
      clear h1 h2 hz
      go_enter Try.func11, Try.ntmps11
      go_wp2_with fail
      go_region_with (first
        | (go_at_call 20; (with_reducible refine (A1 _).mono ?_); rintro e x1 ⟨rfl, hg1⟩)
        | (go_at_call 20; (with_reducible refine (A2 _).mono ?_); rintro e x2 ⟨rfl, hg2⟩)
        | (go_at_call 20; (with_reducible refine (A3 _).mono ?_); rintro e x3 ⟨rfl, hg3⟩)
        | (go_at_call 29; (with_reducible refine (B1 _).mono ?_); rintro e x4 ⟨rfl, rfl⟩))
      all_goals
        unfold S
        go_wp2_with fail
        refine (B2 _).mono ?_
        rintro e x5 ⟨rfl, rfl⟩
        unfold S
        go_wp2_with fail
        go_ret
        exact ⟨rfl, grow_below (grow_trans (grow_trans (grow_trans (grow_drew (grow_refl w none)) hg1) hg2) hg3) _ (Nat.le_refl _) (by simp)⟩
  · have q1 : ((k.length : Int) != 32) = true := by simp; omega
    obtain rfl : z = 1 := by rw [hz, if_neg (by omega)]
    clear h1 hz
    go_enter Try.func11, Try.ntmps11
    go_wp2_with fail
    go_region_with (first
      | (go_at_call 20; (with_reducible refine (A1 _).mono ?_); rintro e x1 ⟨rfl, hg1⟩)
      | (go_at_call 20; (with_reducible refine (A2 _).mono ?_); rintro e x2 ⟨rfl, hg2⟩)
      | (go_at_call 20; (with_reducible refine (A3 _).mono ?_); rintro e x3 ⟨rfl, hg3⟩)
      | (go_at_call 29; (with_reducible refine (B1 _).mono ?_); rintro e x4 ⟨rfl, rfl⟩))
    all_goals
      unfold S
      go_wp2_with fail
      refine (B2 _).mono ?_
      rintro e x5 ⟨rfl, rfl⟩
      unfold S
      go_wp2_with fail
      go_ret
      exact ⟨rfl, grow_below (grow_trans (grow_trans (grow_trans (grow_drew (grow_refl w none)) hg1) hg2) hg3) _ (Nat.le_refl _) (by simp)⟩

def skKeyHex : List UInt8 := [56, 48, 56, 49, 56, 50, 56, 51, 56, 52, 56, 53, 56, 54, 56, 55, 56, 56, 56, 57, 56, 97, 56, 98, 56, 99, 56, 100, 56, 101, 56, 102, 57, 48, 57, 49, 57, 50, 57, 51, 57, 52, 57, 53, 57, 54, 57, 55, 57, 56, 57, 57, 57, 97, 57, 98, 57, 99, 57, 100, 57, 101, 57, 102]
def skKey : List UInt8 := [128, 129, 130, 131, 132, 133, 134, 135, 136, 137, 138, 139, 140, 141, 142, 143, 144, 145, 146, 147, 148, 149, 150, 151, 152, 153, 154, 155, 156, 157, 158, 159]
def skText : List UInt8 := [76, 97, 100, 105, 101, 115, 32, 97, 110, 100, 32, 71, 101, 110, 116, 108, 101, 109, 101, 110, 32, 111, 102, 32, 116, 104, 101, 32, 99, 108, 97, 115, 115, 32, 111, 102, 32, 39, 57, 57, 58, 32, 73, 102, 32, 73, 32, 99, 111, 117, 108, 100, 32, 111, 102, 102, 101, 114, 32, 121, 111, 117, 32, 111, 110, 108, 121, 32, 111, 110, 101, 32, 116, 105, 112, 32, 102, 111, 114, 32, 116, 104, 101, 32, 102, 117, 116, 117, 114, 101, 44, 32, 115, 117, 110, 115, 99, 114, 101, 101, 110, 32, 119, 111, 117, 108, 100, 32, 98, 101, 32, 105, 116, 46]
def skNonceHex : List UInt8 := [48, 55, 48, 48, 48, 48, 48, 48, 52, 48, 52, 49, 52, 50, 52, 51, 52, 52, 52, 53, 52, 54, 52, 55]
def skNonce : List UInt8 := [7, 0, 0, 0, 64, 65, 66, 67, 68, 69, 70, 71]
def skMoreHex : List UInt8 := [53, 48, 53, 49, 53, 50, 53, 51, 99, 48, 99, 49, 99, 50, 99, 51, 99, 52, 99, 53, 99, 54, 99, 55]
def skMore : List UInt8 := [80, 81, 82, 83, 192, 193, 194, 195, 196, 197, 198, 199]
def skPreHex : List UInt8 := [100, 51, 49, 97, 56, 100, 51, 52, 54, 52, 56, 101, 54, 48, 100, 98, 55, 98, 56, 54, 97, 102, 98, 99, 53, 51, 101, 102, 55, 101, 99, 50]
def skPre : List UInt8 := [211, 26, 141, 52, 100, 142, 96, 219, 123, 134, 175, 188, 83, 239, 126, 194]
def skSufHex : List UInt8 := [49, 97, 101, 49, 48, 98, 53, 57, 52, 102, 48, 57, 101, 50, 54, 97, 55, 101, 57, 48, 50, 101, 99, 98, 100, 48, 54, 48, 48, 54, 57, 49]
def skSuf : List UInt8 := [26, 225, 11, 89, 79, 9, 226, 106, 126, 144, 46, 203, 208, 96, 6, 145]

theorem sk_hex : (okR skKeyHex = true ∧ unhexR skKeyHex = skKey) ∧ (okR skNonceHex = true ∧ unhexR skNonceHex = skNonce) ∧ (okR skMoreHex = true ∧ unhexR skMoreHex = skMore) ∧ (okR skPreHex = true ∧ unhexR skPreHex = skPre) ∧ (okR skSufHex = true ∧ unhexR skSufHex = skSuf) := by decide +kernel
theorem sk_pre : Lib.hasPrefix (sealL skKey skNonce skMore skText) skPre = true := by decide +kernel
theorem sk_suf : Lib.hasSuffix (sealL skKey skNonce skMore skText) skSuf = true := by decide +kernel

set_option maxHeartbeats 1000000 in
theorem walk_SealKnown (w : World) : Calls Try.prog 10 #[] w fun e w' => e = .returned (.bool true) ∧ Below w.heap.size w w' := by
  obtain ⟨h1, h2, h3, h4, h5⟩ := sk_hex
  have A1 : ∀ W : World, Calls Try.prog 16 #[S skKeyHex] W (Grown (S skKey) W) := fun W => code_bytes W _ _ (by decide) h1.1 h1.2
  have A2 : ∀ W : World, Calls Try.prog 16 #[S skNonceHex] W (Grown (S skNonce) W) := fun W => code_bytes W _ _ (by decide) h2.1 h2.2
  have A3 : ∀ W : World, Calls Try.prog 16 #[S skMoreHex] W (Grown (S skMore) W) := fun W => code_bytes W _ _ (by decide) h3.1 h3.2
  have A4 : ∀ W : World, Calls Try.prog 16 #[S skPreHex] W (Grown (S skPre) W) := fun W => code_bytes W _ _ (by decide) h4.1 h4.2
  have A5 : ∀ W : World, Calls Try.prog 16 #[S skSufHex] W (Grown (S skSuf) W) := fun W => code_bytes W _ _ (by decide) h5.1 h5.2
  have B : ∀ W : World, Calls Try.prog 27 #[S skKey, S skNonce, S skMore, S skText] W (Blocked (sealL skKey skNonce skMore skText) W) := fun W => code_seal W _ _ _ _ (by decide) (by decide) (by decide) (by decide)
  have P1 := sk_pre
  have P2 := sk_suf
  have hlen : (sealL skKey skNonce skMore skText).length ≤ 9223372036854775807 := by rw [sealL_length]; decide
  generalize sealL skKey skNonce skMore skText = V at *
  generalize skKey = K at *
  generalize skNonce = N at *
  generalize skMore = M at *
  generalize skPre = P at *
  generalize skSuf = Q at *
  unfold S Blocked at *
  unfold skKeyHex at A1
  unfold skNonceHex at A2
  unfold skMoreHex at A3
  unfold skPreHex at A4
  unfold skSufHex at A5
  unfold skText at B
  clear h1 h2 h3 h4 h5
  go_enter Try.func10, Try.ntmps10
  go_wp2_with fail
  refine (A1 _).mono ?_
  rintro e x1 ⟨rfl, hg1⟩
  go_wp2_with fail
  refine (A2 _).mono ?_
  rintro e x2 ⟨rfl, hg2⟩
  go_wp2_with fail
  refine (A3 _).mono ?_
  rintro e x3 ⟨rfl, hg3⟩
  go_wp2_with fail
  refine (B _).mono ?_
  rintro e x4 ⟨rfl, hg4⟩
  unfold S
  go_wp2_with fail
  refine (A4 _).mono ?_
  rintro e x5 ⟨rfl, hg5⟩
  go_wp2_with fail
  refine (Try.strings_HasPrefix _ _ _).mono ?_
  rintro e x6 ⟨rfl, rfl⟩
  rw [show Lib.hasPrefix (ByteArray.mk V.toArray).data.toList (ByteArray.mk P.toArray).data.toList = true from P1]
  go_wp2_with fail
  refine (A5 _).mono ?_
  rintro e x7 ⟨rfl, hg7⟩
  go_wp2_with fail
  refine (Try.strings_HasSuffix ⟨V.toArray⟩ _ _ (by simpa [ByteArray.size] using hlen)).mono ?_
  rintro e x8 ⟨rfl, rfl⟩
  rw [show Lib.hasSuffix (ByteArray.mk V.toArray).data.toList (ByteArray.mk Q.toArray).data.toList = true from P2]
  go_wp2_with fail
  go_ret
  exact ⟨rfl, grow_below (grow_trans (grow_trans (grow_trans (grow_trans (grow_trans hg1 hg2) hg3) hg4) hg5) hg7) _ (Nat.le_refl _) (by simp)⟩

end Go.Proofs.Ytfdbnkbnfappfaa
