/- ChaCha: a text xored with the stream; a key of a key. -/
import Derived.Test.YtffeekfofbcobaaBlock
namespace Go.Proofs.Ytffeekfofbcobaa
open Go.RowKit
set_option linter.unusedVariables false

def next32 (n : Nat) : Nat := (n + 1) % 4294967296

/-- A text xored with the blocks from number n on (so many at most). -/
def chx (key nonce : List UInt8) : Nat → Nat → List UInt8 → List UInt8
  | 0, _, _ => []
  | f + 1, n, s => if s = [] then [] else xorL s (blockL key nonce n) ++ chx key nonce f (next32 n) (s.drop 64)

def chxL (key nonce : List UInt8) (n : Nat) (s : List UInt8) : List UInt8 := chx key nonce (s.length + 1) n s

theorem chx_nil (key nonce : List UInt8) (f n : Nat) : chx key nonce f n [] = [] := by
  cases f <;> simp [chx]

theorem chx_length (key nonce : List UInt8) : ∀ (f n : Nat) (s : List UInt8), s.length ≤ 64 * f → (chx key nonce f n s).length = s.length
  | 0, _, s, h => by
    obtain rfl : s = [] := List.eq_nil_of_length_eq_zero (by omega)
    rfl
  | f + 1, n, s, h => by
    unfold chx
    by_cases e : s = []
    · simp [e]
    · rw [if_neg e, List.length_append, chx_length key nonce f _ (s.drop 64) (by rw [List.length_drop]; omega), xorL_length, blockL_length, List.length_drop]
      omega

theorem chxL_length (key nonce : List UInt8) (n : Nat) (s : List UInt8) : (chxL key nonce n s).length = s.length := chx_length _ _ _ _ _ (by omega)

theorem drop_part (s b : List UInt8) (hb : b.length = 64) : s.drop (xorL s b).length = s.drop 64 := by
  rw [xorL_length, hb]
  rcases Nat.lt_or_ge s.length 64 with h | h
  · rw [Nat.min_eq_left (by omega), List.drop_length, List.drop_of_length_le (by omega)]
  · rw [Nat.min_eq_right h]

set_option maxRecDepth 20000 in
set_option maxHeartbeats 2000000 in
theorem code_cxor (w : World) (key nonce s : List UInt8) (n : Nat) (hk : key.length = 32) (hn : nonce.length = 12) (h32 : n < 4294967296) (hs : s.length ≤ 2000) :
    Calls Try.prog 54 #[S key, S nonce, .int .u32 n, S s] w (Blocked (chxL key nonce n s) w) := by
  have hc : checkN key nonce 12 = 0 := by unfold checkN; rw [if_pos ⟨hk, hn⟩]
  have HC := Lib.hid hc
  have HK := Lib.hid hk
  have HN := Lib.hid hn
  have hrec : chxL key nonce n s = [] ++ chx key nonce (s.length + 1) n s := rfl
  generalize chxL key nonce n s = V at *
  have HR := Lib.hid hrec
  have lk : key.length ≤ 32 := by omega
  have ln : nonce.length ≤ 12 := by omega
  clear hc hk hn hrec
  have r1 := rule_app
  have r2 := rule_ext
  have hd : decide (2000 < (s.length : Int)) = false := by simp; omega
  unfold S
  go_enter Try.func54, Try.ntmps54
  go_wp2_with fail
  refine (code_check w key nonce 12 (by omega) (by omega) (by omega)).mono ?_
  rintro e w1 ⟨rfl, rfl⟩
  rw [HC.out]
  go_wp2_with fail
  go_loopw [2, 3, 11] (fun vn vs vo wr => ∃ (f m : Nat) (T out : List UInt8), vn = .int .u32 m ∧ m < 4294967296 ∧ vs = S T ∧ vo = S out ∧ Hid (V = out ++ chx key nonce f m T) ∧ Hid (T.length ≤ 64 * f) ∧ out.length + T.length ≤ 2000 ∧ w.grownBy wr none) (fun _ vs _ _ => match vs with | .string b => b.size | _ => 0)
  case atStart => exact ⟨s.length + 1, n, s, [], rfl, h32, rfl, rfl, HR.out, by show s.length ≤ 64 * (s.length + 1); omega, by simpa using hs, grow_refl _ _⟩
  case round =>
    clear HR
    obtain ⟨f, m, T, out, rfl, m32, rfl, rfl, hV, hf, hle, hg⟩ := hrel
    by_cases hT : T = []
    · subst hT
      rw [chx_nil, List.append_nil] at hV
      unfold S
      go_wp2_with fail
      go_ret2
      exact ⟨by rw [hV.out]; rfl, hg⟩
    · have q1 : (!T.isEmpty) = true := by simpa using hT
      have q2 : T.isEmpty = false := by simpa using hT
      have hpos : 0 < T.length := List.length_pos_iff.2 hT
      have hb64 := blockL_length key nonce m
      have hxl := xorL_length T (blockL key nonce m)
      have hdp := Lib.hid (drop_part T (blockL key nonce m) hb64)
      obtain ⟨g, rfl⟩ : ∃ g, f = g + 1 := by
        have := hf.out
        exact ⟨f - 1, by omega⟩
      have hstep := Lib.hid (show V = (out ++ xorL T (blockL key nonce m)) ++ chx key nonce g (next32 m) (T.drop 64) from by
        rw [hV.out, chx, if_neg hT, List.append_assoc])
      have hlen2 : (xorL T (blockL key nonce m)).length ≤ T.length := by rw [hxl]; omega
      have hlen1 : 0 < (xorL T (blockL key nonce m)).length := by rw [hxl, hb64]; omega
      have hcat : out.length + (xorL T (blockL key nonce m)).length ≤ 9223372036854775807 := by omega
      have hnx := Lib.hid (show ((m : Int) + 1) % 4294967296 = ((next32 m : Nat) : Int) from by unfold next32; omega)
      have htk : List.take (T.length - (xorL T (blockL key nonce m)).length) (List.drop (xorL T (blockL key nonce m)).length T) = List.drop (xorL T (blockL key nonce m)).length T := List.take_of_length_le (by simp)
      have hbl : (blockL key nonce m).length ≤ 140737488355328 := by omega
      have hsum : (out ++ xorL T (blockL key nonce m)).length + (T.drop (xorL T (blockL key nonce m)).length).length ≤ 2000 := by rw [List.length_append, List.length_drop]; omega
      clear hxl hb64 hV hT
      unfold S
      go_wp2_with fail
      refine (code_cblock _ key nonce m HK.out HN.out m32).mono ?_
      rintro e w2 ⟨rfl, hg2⟩
      unfold S
      go_wp2_with fail
      refine (wire_xor w2 T (blockL key nonce m) (by omega) hbl).mono ?_
      rintro e w3 ⟨rfl, hg3⟩
      have hg' := grow_trans (grow_trans hg hg2) hg3
      clear hg hg2 hg3 hbl
      generalize xorL T (blockL key nonce m) = X at *
      unfold S
      go_wp2_with fail
      rw [hnx.out]
      go_roundw
      case rel => exact ⟨g, next32 m, T.drop X.length, out ++ X, rfl, Nat.mod_lt _ (by omega), rfl, rfl, by rw [hdp.out]; exact hstep, by rw [hdp.out, List.length_drop]; have := hf.out; show T.length - 64 ≤ 64 * g; omega, hsum, hg'⟩
      case measure => simp [ByteArray.size]; omega

end Go.Proofs.Ytffeekfofbcobaa
