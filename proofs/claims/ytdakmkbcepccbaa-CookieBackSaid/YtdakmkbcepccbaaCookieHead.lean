/- Cookies: the head of a reply, the mark of a message. -/
import Derived.Test.YtdakmkbcepccbaaByRow
import Derived.Test.YtdakmkbcepccbaaZeros
namespace Go.Proofs.Ytdakmkbcepccbaa
open Go.RowKit
set_option linter.unusedVariables false

/-- The mark of a message; the head of a reply. -/
def mOf (l : List UInt8) : List UInt8 := (l.drop (l.length - 32)).take 16
def hOf (l : List UInt8) : List UInt8 := [3, 0] ++ (l.drop 2).take 4
theorem mOf_length (l : List UInt8) (h : 32 ≤ l.length) : (mOf l).length = 16 := by unfold mOf; rw [List.length_take, List.length_drop]; omega
theorem hOf_length (l : List UInt8) (h : 6 ≤ l.length) : (hOf l).length = 6 := by unfold hOf; rw [List.length_append, List.length_take, List.length_drop]; simp; omega

theorem code_ckmarkof (w : World) (l : List UInt8) (h : 32 ≤ l.length) (hl : l.length ≤ 9223372036854775807) : Calls Try.prog 38 #[S l] w fun e w' => e = .returned (S (mOf l)) ∧ w = w' := by
  obtain ⟨n, hn⟩ : ∃ n, n = l.length - 32 := ⟨_, rfl⟩
  obtain ⟨m, hm⟩ : ∃ m, m = l.length - 16 := ⟨_, rfl⟩
  have hV : mOf l = (l.drop n).take (m - n) := by unfold mOf; rw [← hn, show m - n = 16 from by omega]
  rw [hV]
  have e1 : (l.length : Int) - 32 = (n : Int) := by omega
  have e2 : (l.length : Int) - 16 = (m : Int) := by omega
  have k1 : (n : Int) ≤ (m : Int) := by omega
  have k2 : (m : Int) ≤ (l.length : Int) := by omega
  have k3 : n ≤ m := by omega
  have k4 : m ≤ l.length := by omega
  have r2 := rule_ext
  clear hV hn hm
  unfold S
  go_enter Try.func38, Try.ntmps38
  go_wp2_with fail
  go_ret
  exact ⟨rfl, rfl⟩

set_option maxHeartbeats 1000000 in
theorem code_ckhead (w : World) (l : List UInt8) (h : 6 ≤ l.length) (hl : l.length ≤ 9223372036854775807) : Calls Try.prog 39 #[S l] w (Grown (S (hOf l)) w) := by
  have r1 := rule_app
  have r2 := rule_ext
  have k1 : (6 : Int) ≤ (l.length : Int) := by omega
  have hV : hOf l = [3, 0] ++ (l.drop 2).take 4 := rfl
  have lt : ((l.drop 2).take 4).length = 4 := by rw [List.length_take, List.length_drop]; omega
  rw [hV]
  clear hV
  have hcv : ∀ W : World, (convert 55 9 (.slice (some ⟨W.heap.size, 0, none⟩) 2 2)).run Try.prog (W.alloc (.cells #[.int .u8 3, .int .u8 0] 5)).drew = .ok (.string ⟨#[3, 0]⟩) (W.alloc (.cells #[.int .u8 3, .int .u8 0] 5)).drew := fun W => by
    have h : Bys (W.alloc (.cells #[.int .u8 3, .int .u8 0] 5)).drew W.heap.size [3, 0] := fun i hi => by
      have hi2 : i < 2 := hi
      refine ⟨?_, obj_frozen (obj_new_drew W _) i⟩
      rw [obj_cell (obj_new_drew W _)]
      match i, hi2 with
      | 0, _ => rfl
      | 1, _ => rfl
    exact conv_bys h 2
  have hc := hcv w
  clear hcv
  unfold S
  go_enter Try.func39, Try.ntmps39
  go_wp2_with fail
  go_region
  all_goals
    go_wp2_with fail
    go_ret
    exact ⟨rfl, grow_drew (World.grownBy_alloc _ _ _)⟩

end Go.Proofs.Ytdakmkbcepccbaa
