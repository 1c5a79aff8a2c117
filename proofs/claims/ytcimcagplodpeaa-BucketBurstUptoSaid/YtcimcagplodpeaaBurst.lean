/- The walk of BucketBurst. -/
import Derived.Test.YtcimcagplodpeaaTakeMore
import Derived.Test.YtcimcagplodpeaaRest
import Derived.Test.YtcimcagplodpeaaInts
namespace Go.Proofs.Ytcimcagplodpeaa
open Go.RowKit Go.Maps
set_option linter.unusedVariables false

/-- One source, so many turns left. -/
def one (F : Nat) (left : Int) : Nat → Option Int := fun x => if x = F then (if left < 5 then some left else none) else none

theorem one_later (F : Nat) (left n : Int) (h0 : 0 ≤ left) (h5 : left ≤ 5) (hn : 0 ≤ n) : later (one F left) (min n 5) = one F (min (left + n) 5) := by
  funext x
  unfold later one
  by_cases e : x = F
  · simp only [if_pos e]
    by_cases q : left < 5
    · simp only [if_pos q, Option.map_some, Option.filter_some]
      by_cases r : left + n < 5
      · have e1 : min n 5 = n := by omega
        have e2 : min (left + n) 5 = left + n := by omega
        rw [e1, e2]
        simp [r]
      · have e2 : min (left + n) 5 = 5 := by omega
        rw [e2]
        have e1 : ¬ (left + min n 5 < 5) := by omega
        simp [e1]
    · have e2 : min (left + n) 5 = 5 := by omega
      rw [e2]
      simp [q]
  · simp [if_neg e]

theorem one_taken (F : Nat) (left : Int) (h0 : 0 ≤ left) (h5 : left ≤ 5) : taken (one F left) F false = (if left = 0 then 15 else 0, one F (max (left - 1) 0)) := by
  unfold taken
  by_cases q : left < 5
  · have e : one F left F = some left := by simp [one, q]
    rw [e]
    by_cases z : left = 0
    · subst z
      simp only [if_true]
      rfl
    · simp only [if_neg z]
      have e2 : max (left - 1) 0 = left - 1 := by omega
      rw [e2]
      congr 1
      funext x
      unfold upd one
      by_cases e : x = F
      · simp [e]; omega
      · simp [e]
  · have e : one F left F = none := by simp [one, q]
    obtain rfl : left = 5 := by omega
    rw [e]
    simp
    funext x
    unfold upd one
    by_cases e : x = F
    · simp only [e, if_true]
      rfl
    · simp [e]

theorem one_small (F : Nat) (left : Int) (D : Dm) (g : Good D) (r : Rep D (one F left)) : Maps.size D = 16 ↔ false = true := by
  have := size_le_of g r [F] (fun x _ h => by
    unfold one at h
    by_cases e : x = F
    · simp [e]
    · simp [e] at h)
  simp at this
  constructor
  · intro h; omega
  · intro h; cases h

theorem one_none (F : Nat) : one F 5 = fun _ => none := by
  funext x
  unfold one
  split <;> rfl

theorem one_left (F : Nat) (left : Int) (h0 : 0 ≤ left) (h5 : left ≤ 5) : ((one F left) F).getD 5 = left := by
  unfold one
  rw [if_pos rfl]
  split
  · rfl
  · simp; omega

theorem take_one (w : World) (base : Nat) (a : Nat) (now n : Int) (k F : Nat) (left : Int) (hF : F < 4294967296) (hB : Bk w base a now k (one F left)) (hk : k < 1000000000) (h0 : 0 ≤ now) (hn : 0 ≤ n) (h2 : now + n ≤ 1099511627776) (l0 : 0 ≤ left) (l5 : left ≤ 5) (L : Int) (hL : min (left + n) 5 = L) :
    Calls Try.prog 28 #[.pointer (some ⟨a, 0, none⟩), .int .u32 F, .int .i64 (now + n)] w fun e w' => e = .returned (.int .i64 (if L = 0 then 15 else 0)) ∧
      Bk w' base a (now + n) (k + 1) (one F (max (L - 1) 0)) ∧ Below base w w' := by
  have h := code_take w base a now (now + n) k (one F left) F hF false hB hk h0 (by omega) h2
    (by rw [show now + n - now = n from by omega, one_later F left n l0 l5 hn]; exact fun _ D g r => one_small F _ D g r)
  rw [show now + n - now = n from by omega, one_later F left n l0 l5 hn, hL, one_taken F L (by omega) (by omega)] at h
  exact h

set_option maxHeartbeats 2000000 in
theorem walk_BucketBurst (a0 : Int) (a1 : Option Addr) (len1 cap1 : Nat) (w0 : (Lit.int .u32 a0).wf = true) (w : World) (r1 : IsRecs [.int .i64] w a1 len1 cap1) (up : len1 ≤ 1048576) :
    Calls Try.prog 12 #[.int .u32 a0, .slice a1 len1 cap1] w fun e w' => e = .returned (.bool true) ∧ Below w.heap.size w w' := by
  obtain ⟨⟨hl, hm⟩, f, hf⟩ := ints_of r1
  obtain ⟨F, rfl, hF⟩ : ∃ z : Nat, a0 = (z : Int) ∧ z < 4294967296 := by have := bounds_u32 w0; exact ⟨a0.toNat, by omega, by omega⟩
  clear w0 r1
  go_enter Try.func12, Try.ntmps12
  go_wp2_with fail
  refine (code_bnew w).mono ?_
  rintro e x1 ⟨a, rfl, hb, hg⟩
  rw [← one_none F] at hb
  have HB := grow_below hg w.heap.size (by omega) (by simp)
  clear hg
  go_wp2_with fail
  go_loopw [6, 7, 16] (fun vn vl i wr => ∃ k : Nat, ∃ now left : Int, k ≤ len1 ∧ i = .int .i64 k ∧ vn = .int .i64 now ∧ vl = .int .i64 left ∧ 0 ≤ now ∧ now ≤ 6 * k ∧ 0 ≤ left ∧ left ≤ 5 ∧ Bk wr w.heap.size a now k (one F left) ∧ Below w.heap.size w wr) (fun _ _ i _ => len1 - (intOf i).toNat)
  case atStart => exact ⟨0, 0, 5, by omega, rfl, rfl, rfl, by omega, by omega, by omega, by omega, hb, HB⟩
  case round =>
    clear hb HB
    obtain ⟨k, now, left, hk, rfl, rfl, rfl, n0, n1, l0, l5, hb, HB⟩ := hrel
    by_cases hlk : k < len1
    · obtain ⟨x, rfl, hc, hw⟩ := hf k hlk
      have hxl : x.block < w.heap.size := by
        have := World.block_lt_of_cell? w _ hc
        have e : (x.add k).block = x.block := by unfold Addr.add; split <;> rfl
        omega
      have hc' : wr.cell? (x.add k) = some (.int .i64 (f k)) := by
        rw [HB.cell (by unfold Addr.add; split <;> exact hxl)]; exact hc
      clear hc
      have b1 := bounds_i64 hw
      go_wp2_with fail
      refine (rest_any (f k) 7 _ b1.1 b1.2 (by omega) (by omega)).mono ?_
      rintro e x2 ⟨rfl, rfl⟩
      have k0 : 0 ≤ f k % 7 := by omega
      have k1 : f k % 7 ≤ 6 := by omega
      generalize f k % 7 = n at *
      clear b1 hw
      by_cases q : left + n ≤ 5
      · have hT := take_one wr w.heap.size a now n k F left hF hb (by omega) n0 k0 (by omega) l0 l5 (left + n) (by omega)
        by_cases z : left + n = 0
        · go_wp2_with fail
          refine hT.mono ?_
          rintro e x3 ⟨rfl, hb3, hB3⟩
          rw [if_pos z]
          rw [show max (left + n - 1) 0 = 0 from by omega] at hb3
          have HB3 := HB.trans hB3
          clear hT
          go_wp2_with fail
          refine (code_left _ _ a _ _ _ F hF hb3).mono ?_
          rintro e x4 ⟨rfl, rfl⟩
          rw [one_left F 0 (by omega) (by omega)]
          go_wp2_with fail
          go_roundw
          case rel => exact ⟨k + 1, now + n, 0, by omega, by go_num, rfl, rfl, by omega, by omega, by omega, by omega, hb3, HB3⟩
          case measure => simp [intOf]; omega
        · go_wp2_with fail
          refine hT.mono ?_
          rintro e x3 ⟨rfl, hb3, hB3⟩
          rw [if_neg z]
          rw [show max (left + n - 1) 0 = left + n - 1 from by omega] at hb3
          have HB3 := HB.trans hB3
          clear hT
          go_wp2_with fail
          refine (code_left _ _ a _ _ _ F hF hb3).mono ?_
          rintro e x4 ⟨rfl, rfl⟩
          rw [one_left F (left + n - 1) (by omega) (by omega)]
          go_wp2_with fail
          go_roundw
          case rel => exact ⟨k + 1, now + n, left + n - 1, by omega, by go_num, rfl, rfl, by omega, by omega, by omega, by omega, hb3, HB3⟩
          case measure => simp [intOf]; omega
      · have hT := take_one wr w.heap.size a now n k F left hF hb (by omega) n0 k0 (by omega) l0 l5 5 (by omega)
        go_wp2_with fail
        refine hT.mono ?_
        rintro e x3 ⟨rfl, hb3, hB3⟩
        rw [if_neg (by omega)]
        rw [show max ((5 : Int) - 1) 0 = 4 from by omega] at hb3
        have HB3 := HB.trans hB3
        clear hT
        go_wp2_with fail
        refine (code_left _ _ a _ _ _ F hF hb3).mono ?_
        rintro e x4 ⟨rfl, rfl⟩
        rw [one_left F 4 (by omega) (by omega)]
        go_wp2_with fail
        go_roundw
        case rel => exact ⟨k + 1, now + n, 4, by omega, by go_num, rfl, rfl, by omega, by omega, by omega, by omega, hb3, HB3⟩
        case measure => simp [intOf]; omega
    · go_wp2_with fail
      refine (code_take_err _ _ a now (now - 1) k _ F hb (by omega)).mono ?_
      rintro e x2 ⟨rfl, rfl⟩
      go_wp2_with fail
      go_ret
      exact ⟨rfl, HB⟩

end Go.Proofs.Ytcimcagplodpeaa
