/- The functions of package galois: contracts. -/
import Derived.Test.YtffeekfofbcobaaGreatGaloisPlain
namespace Go.Proofs.YtffeekfofbcobaaGreat
open Go.RowKit
set_option linter.unusedVariables false

theorem gm_b0 : ∀ (f n a : Nat), gm f n a 0 = n
  | 0, n, a => rfl
  | f + 1, n, a => by simp only [gm]; simpa using gm_b0 f n (gx a)

theorem u8_step_n {n a b : Nat} (hn : n < 256) (ha : a < 256) (hb : b < 256) :
    bits .xor .u8 (n : Int) ((a : Int) * bits .and .u8 (b : Int) 1 % 256) = ((n ^^^ (a * (b &&& 1)) : Nat) : Int) := by
  have h1 := and_one_lt b
  have h2 : a * (b &&& 1) < 256 := by
    generalize b &&& 1 = t at *
    match t, h1 with
    | 0, _ => simp
    | 1, _ => simpa using ha
  rw [show (1 : Int) = ((1 : Nat) : Int) from rfl, u8_and_nat b 1 hb (by omega), ← Int.natCast_mul]
  rw [show ((a * (b &&& 1) : Nat) : Int) % 256 = ((a * (b &&& 1) : Nat) : Int) from by omega, u8_xor_nat _ _ hn h2]

theorem u8_step_a {a : Nat} (ha : a < 256) :
    bits .xor .u8 ((a : Int) * 2 % 256) ((a : Int) / 128 * 27) = ((gx a : Nat) : Int) := by
  have e1 : (a : Int) * 2 % 256 = ((a * 2 % 256 : Nat) : Int) := by omega
  have e2 : (a : Int) / 128 * 27 = ((a / 128 * 27 : Nat) : Int) := by omega
  rw [e1, e2, u8_xor_nat _ _ (by omega) (by omega)]
  rfl

set_option maxHeartbeats 400000 in
theorem galois_mul (a b : Nat) (w : World) (ha : a < 256) (hb : b < 256) :
    Calls Tryz.prog 111 #[.int .u8 a, .int .u8 b] w fun e w' => e = .returned (.int .u8 (gmul a b)) ∧ w = w' := by
  go_enter Tryz.func111, Tryz.ntmps111
  go_wp2
  go_loop [0, 1, 5] (fun va vb vn => ∃ f n a' b' : Nat, f ≤ 8 ∧ n < 256 ∧ a' < 256 ∧ b' < 2 ^ f ∧ va = .int .u8 a' ∧ vb = .int .u8 b' ∧ vn = .int .u8 n ∧ Hid (gm f n a' b' = gmul a b)) (fun _ vb _ => (intOf vb).toNat)
  case atStart => exact ⟨8, 0, a, b, by omega, by omega, ha, hb, rfl, rfl, rfl, rfl⟩
  case round =>
    obtain ⟨f, n, a', b', hf, hn, ha', hb', rfl, rfl, rfl, HM⟩ := hrel
    clear ha hb
    have h256 : b' < 256 := Nat.lt_of_lt_of_le hb' (Nat.pow_le_pow_right (by omega) hf : 2 ^ f ≤ 2 ^ 8)
    by_cases h0 : 0 < b'
    · go_wp2
      go_round
      case rel =>
        cases f with
        | zero => exact absurd hb' (by simp; omega)
        | succ f =>
          have h2 : b' / 2 < 2 ^ f := by
            rw [Nat.pow_succ] at hb'; omega
          have h3 := and_one_lt b'
          have h4 : a' * (b' &&& 1) < 256 := by
            generalize b' &&& 1 = t at *
            match t, h3 with
            | 0, _ => simp
            | 1, _ => simpa using ha'
          exact ⟨f, n ^^^ (a' * (b' &&& 1)), gx a', b' / 2, by omega, xor_lt hn h4, gx_lt ha', h2, by rw [u8_step_a ha'], by simp, by rw [u8_step_n hn ha' h256], HM⟩
      case measure => simp [intOf]; omega
    · obtain rfl : b' = 0 := by omega
      go_wp2
      go_ret
      refine ⟨ret_int ?_, rfl⟩
      have := HM.out
      rw [gm_b0] at this
      rw [this]

theorem nlt {n : Nat} (h : n < 256) : (0 : Int) ≤ (n : Int) ∧ (n : Int) ≤ 255 := by omega

set_option maxHeartbeats 400000 in
theorem galois_inv (a : Nat) (w : World) (ha : a < 256) :
    Calls Tryz.prog 121 #[.int .u8 a] w fun e w' => e = .returned (.int .u8 (ginv a)) ∧ w = w' := by
  go_enter Tryz.func121, Tryz.ntmps121
  go_wp2
  go_loop [3, 4, 6] (fun vn vq vi => ∃ f n q k : Nat, f + k = 7 ∧ n < 256 ∧ q < 256 ∧ vi = .int .i64 k ∧ vn = .int .u8 n ∧ vq = .int .u8 q ∧ Hid (gi f n q = ginv a)) (fun _ _ vi => 7 - (intOf vi).toNat)
  case atStart => exact ⟨7, 1, a, 0, by omega, by omega, ha, rfl, rfl, rfl, rfl⟩
  case round =>
    obtain ⟨f, n, q, k, hf, hn, hq, rfl, rfl, rfl, HM⟩ := hrel
    have hq2 := gmul_lt hq q
    by_cases hk : k < 7
    · go_wp2_with fail
      refine (galois_mul q q _ hq hq).mono ?_
      rintro e w' ⟨rfl, rfl⟩
      generalize hg : gmul q q = q2 at *
      have Hg := Lib.hid hg
      clear hg
      go_wp2_with fail
      refine (galois_mul n q2 _ hn hq2).mono ?_
      rintro e w' ⟨rfl, rfl⟩
      have hn2 := gmul_lt hn q2
      go_wp2_with fail
      go_round
      case rel =>
        cases f with
        | zero => omega
        | succ f => exact ⟨f, gmul n q2, q2, k + 1, by omega, hn2, hq2, by go_num, rfl, rfl, by have := HM.out; simp only [gi, Hg.out] at this; exact this⟩
      case measure => simp [intOf]; omega
    · obtain rfl : f = 0 := by omega
      go_wp2_with fail
      go_ret
      exact ⟨ret_int (by have := HM.out; simp only [gi] at this; rw [this]), rfl⟩

theorem rot8_val {a k : Nat} (ha : a < 256) (hk : k < 8) (X : Int) (hX : X = ((a * 2 ^ k % 256 : Nat) : Int)) (Y : Int) (hY : Y = ((a / 2 ^ (8 - k) : Nat) : Int)) :
    bits .or .u8 X Y = ((rotl8 a k : Nat) : Int) := by
  subst hX hY
  rw [u8_or_nat _ _ (Nat.mod_lt _ (by omega)) (Nat.lt_of_le_of_lt (Nat.div_le_self _ _) ha)]
  rfl

set_option maxHeartbeats 400000 in
theorem rot8_any (a : Nat) (k : Int) (w : World) (ha : a < 256) (hk : 0 < k) (hk8 : k < 8) :
    Calls Tryz.prog 122 #[.int .u8 a, .int .i64 k] w fun e w' => e = .returned (.int .u8 (rotl8 a k.toNat)) ∧ w = w' := by
  obtain ⟨n, rfl⟩ := Int.eq_ofNat_of_zero_le (show 0 ≤ k by omega)
  have e1 : bits .and .u64 ((n : Nat) : Int) 7 = (n : Int) := by
    rw [show (7 : Int) = ((7 : Nat) : Int) from rfl, u64_and_nat n 7 (by omega) (by omega), nat_mask3]
    omega
  have e2 : IntKind.u64.wrap (8 - (n : Int)) = 8 - (n : Int) := IntWalk.u64_in _ (by omega)
  have e3 : (n : Int) ≤ 8 := by omega
  have e4 : 8 - (n : Int) ≤ 8 := by omega
  have e5 : 0 ≤ 8 - (n : Int) := by omega
  go_enter Tryz.func122, Tryz.ntmps122
  go_wp2
  go_ret
  refine ⟨ret_int ?_, rfl⟩
  refine rot8_val ha (by omega) _ ?_ _ ?_
  · simp
  · simp

/-- Sub's loop behind so many rounds -/
def gs (b : Nat) : Nat → Nat
  | 0 => b ^^^ 99
  | k + 1 => gs b k ^^^ rotl8 b (k + 1)

theorem gs_lt {b : Nat} (hb : b < 256) : ∀ k, gs b k < 256
  | 0 => xor_lt hb (by omega)
  | k + 1 => xor_lt (gs_lt hb k) (rotl8_lt hb)

set_option maxHeartbeats 400000 in
theorem galois_sub (a : Nat) (w : World) (ha : a < 256) :
    Calls Tryz.prog 110 #[.int .u8 a] w fun e w' => e = .returned (.int .u8 (gsub a)) ∧ w = w' := by
  have hfin : gsub a = gs (ginv a) 4 := rfl
  have HF := Lib.hid hfin
  clear hfin
  have hl := ginv_lt ha
  go_enter Tryz.func110, Tryz.ntmps110
  go_wp2_with fail
  refine (galois_inv a _ ha).mono ?_
  rintro e w' ⟨rfl, rfl⟩
  generalize ginv a = b at *
  have hx : bits .xor .u8 (b : Int) 99 = ((gs b 0 : Nat) : Int) := by rw [show (99 : Int) = ((99 : Nat) : Int) from rfl, u8_xor_nat _ _ hl (by omega)]; rfl
  go_wp2_with fail
  clear hx
  go_loop [4, 10] (fun vn vi => ∃ k : Nat, k ≤ 4 ∧ vi = .int .i64 k ∧ vn = .int .u8 (gs b k)) (fun _ vi => 4 - (intOf vi).toNat)
  case atStart => exact ⟨0, by omega, rfl, rfl⟩
  case round =>
    obtain ⟨k, hk, rfl, rfl⟩ := hrel
    have hg := gs_lt hl k
    have hg1 : bits .xor .u8 ((gs b k : Nat) : Int) ((rotl8 b (k + 1) : Nat) : Int) = ((gs b (k + 1) : Nat) : Int) := u8_xor_nat _ _ hg (rotl8_lt hl)
    by_cases h4 : k < 4
    · go_wp2_with fail
      refine (rot8_any b ((k : Int) + 1) _ hl (by omega) (by omega)).mono ?_
      rintro e w' ⟨rfl, rfl⟩
      rw [show ((k : Int) + 1).toNat = k + 1 from by omega]
      go_wp2_with fail
      go_round
      case rel => exact ⟨k + 1, by omega, by go_num, rfl⟩
      case measure => simp [intOf]; omega
    · obtain rfl : k = 4 := by omega
      go_wp2_with fail
      go_ret
      exact ⟨ret_int (by rw [HF.out]), rfl⟩

end Go.Proofs.YtffeekfofbcobaaGreat
