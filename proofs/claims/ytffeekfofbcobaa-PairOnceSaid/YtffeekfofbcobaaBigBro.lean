/- AppendBig on a row that the call made of a string. -/
import Derived.Test.YtffeekfofbcobaaBro
import Derived.Test.YtffeekfofbcobaaWire
namespace Go.Proofs.Ytffeekfofbcobaa
open Go.RowKit
set_option linter.unusedVariables false

def OwnBro (w : World) (base : Nat) (l : List UInt8) (e : Ending) (w' : World) : Prop := ∃ v', e = .returned v' ∧ bro w' base v' l ∧ Below base w w'

set_option maxHeartbeats 1000000 in
theorem bro_appendBig (w : World) (base : Nat) (v : Value) (l : List UInt8) (n k : Nat) (hown : bro w base v l) (hn : n < 18446744073709551616) (hk : k ≤ 8) (hl : l.length + 8 ≤ 140737488355328) (hb : base ≤ w.heap.size) :
    Calls Try.prog 102 #[v, .int .u64 n, .int .i64 k] w (OwnBro w base (l ++ bigB n k)) := by
  go_enter Try.func102, Try.ntmps102
  go_wp2
  go_loopw [0, 9] (fun vb vi wr => ∃ j : Nat, j ≤ k ∧ vi = .int .i64 j ∧ Hid (bro wr base vb (l ++ (bigB n k).take j)) ∧ Below base w wr) (fun _ vi _ => k - (intOf vi).toNat)
  case atStart => exact ⟨0, by omega, rfl, Lib.hid (by rw [List.take_zero, List.append_nil]; exact hown), Below.refl _ _⟩
  case round =>
    obtain ⟨j, hj, rfl, hK, HB⟩ := hrel
    clear hown
    have hlen := bigB_length n k
    have hbz := HB.size
    by_cases hlt : j < k
    · have hsn := bigB_snoc n k j hlt
      have lt : ((bigB n k).take j).length = j := by rw [List.length_take, hlen]; omega
      obtain ⟨g, cap, hv, k1, k2, k3, k4, h5, h6⟩ := id hK.out
      subst hv
      obtain ⟨v', w', hr, hb2, hg2⟩ := bro_app1 (UInt8.ofNat (n / 2 ^ (8 * (k - 1 - j)))) hK.out (by rw [List.length_append, lt]; omega) (by omega)
      rw [List.append_assoc, ← hsn] at hb2
      have HNX := Lib.hid (And.intro hb2 (HB.trans (grow_below hg2 base (by omega) (by intro b hb; cases hb; exact k1))))
      clear hsn hb2 hg2 h5 h6 hK HB k1 k2 k3 k4
      generalize (l ++ (bigB n k).take j).length = ln at *
      have e1 : 0 ≤ 8 * ((k : Int) - 1 - j) := by omega
      have e2 : 8 * ((k : Int) - 1 - j) ≤ 64 := by omega
      have hc : Value.int .u8 (((n / 2 ^ (8 * (k - 1 - j)) % 256 : Nat)) : Int) = .int .u8 ((UInt8.ofNat (n / 2 ^ (8 * (k - 1 - j)))).toNat : Int) := bcell_of _
      go_wp2_with (at_builtin; go_must (refine append_run rfl _ _ _ _ v' w' ?c1 rfl rfl rfl rfl ?_))
      case c1 =>
        rw [← hr]
        congr 2
      clear hr
      go_wp2_with fail
      go_roundw
      case rel => exact ⟨j + 1, by omega, by go_num, Lib.hid HNX.out.1, HNX.out.2⟩
      case measure => simp [intOf]; omega
    · obtain rfl : j = k := by omega
      have hfin : bro wr base u0 (l ++ bigB n j) := by
        have := hK.out
        rwa [List.take_of_length_le (by omega)] at this
      have HF := Lib.hid hfin
      clear hfin hK
      go_wp2
      go_ret
      exact ⟨_, rfl, HF.out, HB⟩

end Go.Proofs.Ytffeekfofbcobaa
