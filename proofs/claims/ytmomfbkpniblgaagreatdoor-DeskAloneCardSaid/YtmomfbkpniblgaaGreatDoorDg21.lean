/-
  Several texts of this claim in one: Tag, StrsOpen.
-/
import Derived.Test.YtmomfbkpniblgaaGreatDoorDgPolyTimes
import Derived.Test.YtmomfbkpniblgaaGreatDoorDg07
import Derived.Deep.DrawnRows
import Derived.Test.YtmomfbkpniblgaaGreatDoorOpen
namespace Go.Proofs.YtmomfbkpniblgaaGreatDoor
open Go.RowKit
set_option linter.unusedVariables false
attribute [local go_sem ↓] Go.wp_at_zero Go.wp_at_succ

/-- The two calls of a round, their numbers under names. -/
theorem round_calls (a n p q s d0 d1 d2 b0 b1 : Nat) (hN : N3 a = .agg #[.int .u64 (p : Int), .int .u64 (q : Int), .int .u64 (s : Int)]) (hn : N3 n = .agg #[.int .u64 (d0 : Int), .int .u64 (d1 : Int), .int .u64 (d2 : Int)])
    (hs : a + n < 6277101735386680763835789423207666416102355444464034512896) (h0 : b0 < 18446744073709551616) (h1 : b1 < 18446744073709551616) :
    ∃ p1 q1 s1 p2 q2 s2 : Nat, N3 (pmul (a + n) (b0 + 18446744073709551616 * b1)) = .agg #[.int .u64 (p2 : Int), .int .u64 (q2 : Int), .int .u64 (s2 : Int)] ∧
      (∀ W : World, Calls Tryz.prog 93 #[.agg #[.int .u64 (p : Int), .int .u64 (q : Int), .int .u64 (s : Int)], .agg #[.int .u64 (d0 : Int), .int .u64 (d1 : Int), .int .u64 (d2 : Int)]] W (Grown (.agg #[.int .u64 (p1 : Int), .int .u64 (q1 : Int), .int .u64 (s1 : Int)]) W)) ∧
      (∀ W : World, Calls Tryz.prog 94 #[.agg #[.int .u64 (p1 : Int), .int .u64 (q1 : Int), .int .u64 (s1 : Int)], .agg #[.int .u64 (b0 : Int), .int .u64 (b1 : Int)]] W (Grown (.agg #[.int .u64 (p2 : Int), .int .u64 (q2 : Int), .int .u64 (s2 : Int)]) W)) := by
  obtain ⟨u0, u1, u2, e0, e1, e2⟩ : ∃ u0 u1 u2 : Nat, u0 = (a + n) % 18446744073709551616 ∧ u1 = (a + n) / 18446744073709551616 % 18446744073709551616 ∧ u2 = (a + n) / 18446744073709551616 / 18446744073709551616 % 18446744073709551616 := ⟨_, _, _, rfl, rfl, rfl⟩
  have hu : a + n = u0 + 18446744073709551616 * u1 + 340282366920938463463374607431768211456 * u2 := by omega
  have hA : N3 (a + n) = .agg #[.int .u64 (u0 : Int), .int .u64 (u1 : Int), .int .u64 (u2 : Int)] := by rw [e0, e1, e2]; rfl
  obtain ⟨v0, v1, v2, hM⟩ := N3_atoms (pmul (a + n) (b0 + 18446744073709551616 * b1))
  refine ⟨u0, u1, u2, v0, v1, v2, hM, fun W => ?_, fun W => ?_⟩
  · have := code_pplus W a n
    rwa [hN, hn, hA] at this
  · have := code_ptimes W 0 0 u0 u1 u2 b0 b1 (by omega) (by omega) (by omega) h0 h1
    rwa [← hu, hM] at this

end Go.Proofs.YtmomfbkpniblgaaGreatDoor

namespace Go.Proofs.YtmomfbkpniblgaaGreatDoor
open Go.RowKit
set_option linter.unusedVariables false

theorem strs_of {w : World} {a : Option Addr} {len cap : Nat} (h : IsRecs [.str] w a len cap) : (len ≤ cap ∧ cap ≤ maxLen) ∧ ∃ ss : List (List UInt8), ss.length = len ∧ StrsAt w a ss ∧ ∀ s ∈ ss, s.length ≤ maxLen := by
  rcases h with ⟨rfl, rfl, rfl⟩ | ⟨x, rfl, h1, h2, h3⟩
  · exact ⟨⟨Nat.le_refl _, Nat.zero_le _⟩, [], rfl, fun i hi => absurd hi (Nat.not_lt_zero _), by simp⟩
  · have h' : ∀ i, i < len → ∃ s : List UInt8, w.cell? (x.add i) = some (S s) ∧ s.length ≤ maxLen := by
      intro i hi
      obtain ⟨v, hv, s, rfl, hw⟩ := h3 i hi 0 _ rfl
      refine ⟨s.data.toList, ?_, by rw [Array.length_toList]; exact hw⟩
      have e : S s.data.toList = .string s := rfl
      rw [e]
      simpa using hv
    refine ⟨⟨h1, h2⟩, (List.range len).map fun i => if hi : i < len then Classical.choose (h' i hi) else [], by simp, fun i hi => ⟨x, rfl, ?_⟩, fun s hs => ?_⟩
    · have hi' : i < len := by simpa using hi
      simp only [List.getElem_map, List.getElem_range, dif_pos hi']
      exact (Classical.choose_spec (h' i hi')).1
    · obtain ⟨i, hi, rfl⟩ := List.mem_map.1 hs
      have hi' : i < len := by simpa using hi
      simp only [dif_pos hi']
      exact (Classical.choose_spec (h' i hi')).2

end Go.Proofs.YtmomfbkpniblgaaGreatDoor
