/- The walks of PolyAdds, PolyKnown. -/
import Derived.Test.YtfdbnkbnfappfaaPolyPlain
import Derived.Test.YtfdbnkbnfappfaaTagW
import Derived.Test.YtfdbnkbnfappfaaNumber
import Derived.Test.YtfdbnkbnfappfaaKeepBytes
import Derived.Test.YtfdbnkbnfappfaaOpen
import Derived.Deep.RegionWith
import Derived.Deep.RegionHeld3
namespace Go.Proofs.Ytfdbnkbnfappfaa
open Go.RowKit
set_option linter.unusedVariables false

set_option maxRecDepth 20000 in
set_option maxHeartbeats 1000000 in
theorem walk_PolyAdds (s0 s1 s2 : ByteArray) (w0 : s0.size ≤ maxLen) (w1 : s1.size ≤ maxLen) (w2 : s2.size ≤ maxLen) (w : World) :
    Calls Try.prog 7 #[.string s0, .string s1, .string s2] w fun e w' => e = .returned (.bool true) ∧ Below w.heap.size w w' := by
  obtain ⟨k, rfl, hk⟩ := listB s0
  obtain ⟨n, rfl, hn⟩ := listB s1
  obtain ⟨t, rfl, ht⟩ := listB s2
  unfold maxLen at w0 w1 w2
  rw [← hk] at w0
  rw [← hn] at w1
  rw [← ht] at w2
  clear hk hn ht
  have A1 : ∀ W : World, Calls Try.prog 20 #[.string ⟨k.toArray⟩, .int .i64 16] W (Grown (S (sizedL k 16)) W) := fun W => code_sized W k 16 w0 (by omega)
  have A2 : ∀ W : World, Calls Try.prog 20 #[.string ⟨n.toArray⟩, .int .i64 16] W (Grown (S (sizedL n 16)) W) := fun W => code_sized W n 16 w1 (by omega)
  have kl := sizedL_length k 16
  have nl := sizedL_length n 16
  generalize sizedL k 16 = K at *
  generalize sizedL n 16 = N at *
  have B1 : ∀ W : World, Calls Try.prog 25 #[S (K ++ N), S t] W (Grown (.tuple #[S (tagL (K ++ N) t), .int .i64 0]) W) := fun W => code_ptag W (K ++ N) t (by rw [List.length_append]; omega) w2
  have B2 : ∀ W : World, Calls Try.prog 25 #[S (K ++ zerosL 16), S t] W (Grown (.tuple #[S (tagL (K ++ zerosL 16) t), .int .i64 0]) W) := fun W => code_ptag W (K ++ zerosL 16) t (by rw [List.length_append, zerosL_length]; omega) w2
  have la := tagL_length (K ++ N) t
  have lb := tagL_length (K ++ zerosL 16) t
  obtain ⟨E1, E2⟩ := poly_adds K N t kl _ _ rfl rfl
  have C1 := fun W : World => code_number W (tagL (K ++ N) t) la
  have C2 := fun W : World => code_number W (tagL (K ++ zerosL 16) t) lb
  have C3 := fun W : World => code_number W N nl
  generalize tagL (K ++ N) t = ta at *
  generalize tagL (K ++ zerosL 16) t = tb at *
  have p0 : leN (tb.take 8) < 18446744073709551616 := leN_lt8 _ (by rw [List.length_take]; omega)
  have p1 : leN ((tb.drop 8).take 8) < 18446744073709551616 := leN_lt8 _ (by rw [List.length_take]; omega)
  have p2 : leN (N.take 8) < 18446744073709551616 := leN_lt8 _ (by rw [List.length_take]; omega)
  have p3 : leN ((N.drop 8).take 8) < 18446744073709551616 := leN_lt8 _ (by rw [List.length_take]; omega)
  generalize leN (ta.take 8) = x at *
  generalize leN ((ta.drop 8).take 8) = y at *
  generalize leN (tb.take 8) = p at *
  generalize leN ((tb.drop 8).take 8) = q at *
  generalize leN (N.take 8) = u at *
  generalize leN ((N.drop 8).take 8) = v at *
  have ea : (ta.length : Int) = 16 := by omega
  have eb : (tb.length : Int) = 16 := by omega
  have r1 := rule_app
  have kn : K.length + N.length ≤ 9223372036854775807 := by omega
  have kz : K.length + (zerosL 16).length ≤ 9223372036854775807 := by rw [zerosL_length]; omega
  unfold S at *
  clear w0 w1 w2 kl nl la lb
  have H1 := Lib.hid E1
  have H2 := Lib.hid E2
  clear E1 E2
  go_enter Try.func7, Try.ntmps7
  go_wp2_with (first
    | (go_at_call 20; (with_reducible refine (A1 _).mono ?_); rintro e x1 ⟨rfl, hg1⟩)
    | (go_at_call 20; (with_reducible refine (A2 _).mono ?_); rintro e x2 ⟨rfl, hg2⟩)
    | fail)
  refine (B1 _).mono ?_
  rintro e x3 ⟨rfl, hg3⟩
  go_wp2_with fail
  refine (code_zeros _ 16 (by omega)).mono ?_
  rintro e x4 ⟨rfl, hg4⟩
  unfold S
  go_wp2_with fail
  refine (B2 _).mono ?_
  rintro e x5 ⟨rfl, hg5⟩
  have hgA := grow_trans (grow_trans (grow_trans (grow_trans hg1 hg2) hg3) hg4) hg5
  clear hg1 hg2 hg3 hg4 hg5 A1 A2 B1 B2
  go_wp2_with fail
  refine (C1 _).mono ?_
  rintro e x6 ⟨rfl, rfl⟩
  go_wp2_with fail
  refine (C2 _).mono ?_
  rintro e x7 ⟨rfl, rfl⟩
  go_wp2_with fail
  refine (C3 _).mono ?_
  rintro e x8 ⟨rfl, rfl⟩
  clear C1 C2 C3 kn kz ea eb
  have hw : IntKind.u64.wrap ((p : Int) + u) = (x : Int) := by
    show ((p : Int) + u) % 18446744073709551616 = _
    have := H1.out; omega
  by_cases hc : x < p
  · have hv : IntKind.u64.wrap (IntKind.u64.wrap ((q : Int) + v) + 1) = (y : Int) := by
      show (((q : Int) + v) % 18446744073709551616 + 1) % 18446744073709551616 = _
      have := H2.out
      rw [← H1.out, if_pos hc] at this
      omega
    go_wp2_with fail
    go_ret
    exact ⟨rfl, grow_below hgA _ (Nat.le_refl _) (by simp)⟩
  · have hv : IntKind.u64.wrap ((q : Int) + v) = (y : Int) := by
      show (((q : Int) + v) % 18446744073709551616) = _
      have := H2.out
      rw [← H1.out, if_neg hc] at this
      omega
    have hv2 : IntKind.u64.wrap (y : Int) = (y : Int) := by
      show (y : Int) % 18446744073709551616 = _
      have := H2.out; omega
    go_wp2_with fail
    go_ret
    exact ⟨rfl, grow_below hgA _ (Nat.le_refl _) (by simp)⟩


def pkHex : List UInt8 := [56, 53, 100, 54, 98, 101, 55, 56, 53, 55, 53, 53, 54, 100, 51, 51, 55, 102, 52, 52, 53, 50, 102, 101, 52, 50, 100, 53, 48, 54, 97, 56, 48, 49, 48, 51, 56, 48, 56, 97, 102, 98, 48, 100, 98, 50, 102, 100, 52, 97, 98, 102, 102, 54, 97, 102, 52, 49, 52, 57, 102, 53, 49, 98]
def pkKey : List UInt8 := [133, 214, 190, 120, 87, 85, 109, 51, 127, 68, 82, 254, 66, 213, 6, 168, 1, 3, 128, 138, 251, 13, 178, 253, 74, 191, 246, 175, 65, 73, 245, 27]
def pkText : List UInt8 := [67, 114, 121, 112, 116, 111, 103, 114, 97, 112, 104, 105, 99, 32, 70, 111, 114, 117, 109, 32, 82, 101, 115, 101, 97, 114, 99, 104, 32, 71, 114, 111, 117, 112]
def pkTagHex : List UInt8 := [97, 56, 48, 54, 49, 100, 99, 49, 51, 48, 53, 49, 51, 54, 99, 54, 99, 50, 50, 98, 56, 98, 97, 102, 48, 99, 48, 49, 50, 55, 97, 57]
def pkTag : List UInt8 := [168, 6, 29, 193, 48, 81, 54, 198, 194, 43, 139, 175, 12, 1, 39, 169]

theorem pk_key : okR pkHex = true ∧ unhexR pkHex = pkKey := by decide +kernel
theorem pk_tagh : okR pkTagHex = true ∧ unhexR pkTagHex = pkTag := by decide +kernel
theorem pk_tag : tagL pkKey pkText = pkTag := by decide +kernel

set_option maxRecDepth 20000 in
set_option maxHeartbeats 1000000 in
theorem walk_PolyKnown (s0 s1 : ByteArray) (w0 : s0.size ≤ maxLen) (w1 : s1.size ≤ maxLen) (w : World) :
    Calls Try.prog 8 #[.string s0, .string s1] w fun e w' => e = .returned (.bool true) ∧ Below w.heap.size w w' := by
  obtain ⟨n, rfl, hn⟩ := listB s0
  obtain ⟨t, rfl, ht⟩ := listB s1
  unfold maxLen at w0 w1
  rw [← hn] at w0
  rw [← ht] at w1
  clear hn ht
  have A1 : ∀ W : World, Calls Try.prog 20 #[.string ⟨n.toArray⟩, .int .i64 16] W (Grown (S (sizedL n 16)) W) := fun W => code_sized W n 16 w0 (by omega)
  have nl := sizedL_length n 16
  generalize sizedL n 16 = N at *
  have A2 : ∀ W : World, Calls Try.prog 16 #[S pkHex] W (Grown (S pkKey) W) := fun W => code_bytes W pkHex pkKey (by decide) pk_key.1 pk_key.2
  have A3 : ∀ W : World, Calls Try.prog 16 #[S pkTagHex] W (Grown (S pkTag) W) := fun W => code_bytes W pkTagHex pkTag (by decide) pk_tagh.1 pk_tagh.2
  have B1 : ∀ W : World, Calls Try.prog 25 #[S pkKey, S pkText] W (Grown (.tuple #[S pkTag, .int .i64 0]) W) := fun W => by
    have := code_ptag W pkKey pkText (by decide) (by decide)
    rwa [pk_tag] at this
  have B2 : ∀ W : World, Calls Try.prog 25 #[S (zerosL 16 ++ N), S t] W (Grown (.tuple #[S N, .int .i64 0]) W) := fun W => by
    have := code_ptag W (zerosL 16 ++ N) t (by rw [List.length_append, zerosL_length]; omega) w1
    rwa [tag_zero N t nl] at this
  have r1 := rule_app
  have kz : (zerosL 16).length + N.length ≤ 9223372036854775807 := by rw [zerosL_length]; omega
  have A4 : ∀ W : World, Calls Try.prog 24 #[.int .i64 16] W (Grown (S (zerosL 16)) W) := fun W => code_zeros W 16 (by omega)
  generalize pkKey = key at *
  generalize pkTag = tg at *
  generalize zerosL 16 = Z at *
  clear nl w0 w1
  unfold S at *
  unfold pkHex at A2
  unfold pkText at B1
  unfold pkTagHex at A3
  go_enter Try.func8, Try.ntmps8
  go_wp2_with fail
  refine (A1 _).mono ?_
  rintro e x1 ⟨rfl, hg1⟩
  go_wp2_with fail
  refine (A2 _).mono ?_
  rintro e x2 ⟨rfl, hg2⟩
  go_wp2_with fail
  refine (B1 _).mono ?_
  rintro e x3 ⟨rfl, hg3⟩
  go_wp2_with fail
  refine (A4 _).mono ?_
  rintro e x4 ⟨rfl, hg4⟩
  go_wp2_with fail
  refine (B2 _).mono ?_
  rintro e x5 ⟨rfl, hg5⟩
  go_wp2_with fail
  refine (A3 _).mono ?_
  rintro e x6 ⟨rfl, hg6⟩
  go_wp2_with fail
  go_ret
  exact ⟨rfl, grow_below (grow_trans (grow_trans (grow_trans (grow_trans (grow_trans hg1 hg2) hg3) hg4) hg5) hg6) _ (Nat.le_refl _) (by simp)⟩

end Go.Proofs.Ytfdbnkbnfappfaa
