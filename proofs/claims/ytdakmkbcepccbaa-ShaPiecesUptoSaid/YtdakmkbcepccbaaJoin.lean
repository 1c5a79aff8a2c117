/- strings.Join, without anything between. -/
import Derived.Test.YtdakmkbcepccbaaZeros
import Derived.Test.YtdakmkbcepccbaaStrs
import Derived.Lib.Join
namespace Go.Proofs.Ytdakmkbcepccbaa
open Go.RowKit
set_option linter.unusedVariables false

theorem join_none (ss : List (List UInt8)) : Lib.join ss [] = ss.flatten := by
  cases ss with
  | nil => rfl
  | cons x r =>
    rw [Lib.join_cons]
    simp [Lib.joinTail]
theorem spot_none {w : World} {x : Addr} {v : Value} (h : w.cell? x = some v) : x.spot = none := by
  unfold World.cell? at h
  split at h
  · by_cases hs : x.spot.isSome
    · rw [if_pos hs] at h; cases h
    · simpa using hs
  · cases h
theorem cell_lt {w : World} {x : Addr} {v : Value} (h : w.cell? x = some v) : x.block < w.heap.size := by
  rcases Nat.lt_or_ge x.block w.heap.size with h' | h'
  · exact h'
  · unfold World.cell? at h
    rw [Array.getElem?_eq_none h'] at h
    cases h

set_option maxHeartbeats 1000000 in
theorem code_join (w : World) (a : Option Addr) (ss : List (List UInt8)) (cap : Nat) (hat : StrsAt w a ss) (hlc : ss.length ≤ cap) (hcm : cap ≤ maxLen) (hn : ss.length ≤ 1048576) (hb : ss.flatten.length ≤ 1048576) :
    Calls Try.prog 12 #[.slice a ss.length cap, S []] w (Grown (S ss.flatten) w) := by
  by_cases h0 : ss = []
  · subst h0
    unfold S
    go_enter Try.func12, Try.ntmps12
    go_wp2_with fail
    go_ret
    exact ⟨rfl, grow_refl _ _⟩
  have hp : 0 < ss.length := List.length_pos_iff.2 h0
  obtain ⟨⟨bk, o, sp⟩, rfl, c0⟩ := hat 0 hp
  have hs : sp = none := spot_none (w := w) (x := ⟨bk, o, sp⟩) c0
  subst hs
  have hbk : bk < w.heap.size := cell_lt (w := w) (x := ⟨bk, o, none⟩) c0
  have e1 : (ss.map fun l => ByteArray.mk l.toArray).map (·.data.toList) = ss := by
    rw [List.map_map]
    conv => rhs; rw [← List.map_id ss]
    rfl
  have h := Try.strings_Join bk o cap (ss.map fun l => ByteArray.mk l.toArray) ⟨#[]⟩ w (by
    intro j x hj
    rw [List.getElem?_map] at hj
    obtain ⟨t, ht, rfl⟩ := Option.map_eq_some_iff.1 hj
    obtain ⟨hjl, rfl⟩ := List.getElem?_eq_some_iff.1 ht
    obtain ⟨y, hy, hc⟩ := hat j hjl
    obtain rfl := Option.some.inj hy
    have e : (⟨bk, o, none⟩ : Addr).add j = ⟨bk, o + j, none⟩ := by unfold Addr.add; split <;> simp_all
    rw [e] at hc
    exact hc) hbk (by rw [List.length_map]; omega) (by rw [List.length_map]; exact hlc) (by rw [e1]; show (Lib.join ss []).length ≤ _; rw [join_none]; omega)
  rw [List.length_map] at h
  refine h.mono ?_
  rintro e w' ⟨rfl, hbl⟩
  refine ⟨?_, grow_of_below hbl⟩
  rw [e1, show (ByteArray.mk #[]).data.toList = [] from rfl, join_none]
  rfl

end Go.Proofs.Ytdakmkbcepccbaa
