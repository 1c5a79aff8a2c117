/- AppendBig on a row of the call's own: just its block, or new ones, are written. -/
import Derived.Test.YtbkgfpebffmffaaBro
import Derived.Test.YtbkgfpebffmffaaWire
namespace Go.Proofs.Ytbkgfpebffmffaa
open Go.RowKit
set_option linter.unusedVariables false

def OwnBro2 (w : World) (base : Nat) (x : Option Nat) (l : List UInt8) (e : Ending) (w' : World) : Prop := ∃ v', e = .returned v' ∧ bro w' base v' l ∧ w.grownBy w' x
/-- The row lies where it lay, or in a new block. -/
def Moved (w : World) (v v' : Value) : Prop := v'.ownBlock = v.ownBlock ∨ ∃ b, v'.ownBlock = some b ∧ w.heap.size ≤ b
theorem moved_grow {w a b : World} {v u : Value} (h : w.grownBy a v.ownBlock) (m : Moved w v u) (g : a.grownBy b u.ownBlock) : w.grownBy b v.ownBlock := by
  rcases m with e | ⟨k, e, hk⟩
  · rw [e] at g; exact grow_trans h g
  · rw [e] at g; exact grow_trans_new h g hk
theorem moved_more {w a b : World} {v u u' : Value} {l : List UInt8} (h : w.grownBy a v.ownBlock) (m : Moved w v u) (k : u'.ownBlock = u.ownBlock ∨ bro b a.heap.size u' l) : Moved w v u' := by
  rcases k with e | hb
  · unfold Moved
    rw [e]
    exact m
  · obtain ⟨g, e, h1, _⟩ := hb.own
    exact Or.inr ⟨g, e, Nat.le_trans h.size h1⟩

set_option maxHeartbeats 1000000 in
theorem bro_appendBig2 (w : World) (base : Nat) (v : Value) (l : List UInt8) (n k : Nat) (hown : bro w base v l) (hn : n < 18446744073709551616) (hk : k ≤ 8) (hl : l.length + 8 ≤ 140737488355328) (hb : base ≤ w.heap.size) :
    Calls Try.prog 46 #[v, .int .u64 n, .int .i64 k] w (OwnBro2 w base v.ownBlock (l ++ bigB n k)) := by
  go_enter Try.func46, Try.ntmps46
  go_wp2
  go_loopw [0, 9] (fun vb vi wr => ∃ j : Nat, j ≤ k ∧ vi = .int .i64 j ∧ Hid (bro wr base vb (l ++ (bigB n k).take j)) ∧ Hid (w.grownBy wr v.ownBlock) ∧ Hid (Moved w v vb)) (fun _ vi _ => k - (intOf vi).toNat)
  case atStart => exact ⟨0, by omega, rfl, Lib.hid (by rw [List.take_zero, List.append_nil]; exact hown), Lib.hid (grow_refl _ _), Lib.hid (Or.inl rfl)⟩
  case round =>
    obtain ⟨j, hj, rfl, hK, HB, HM⟩ := hrel
    clear hown
    have hlen := bigB_length n k
    have hbz := HB.out.size
    by_cases hlt : j < k
    · have hsn := bigB_snoc n k j hlt
      have lt : ((bigB n k).take j).length = j := by rw [List.length_take, hlen]; omega
      obtain ⟨g, cap, hv, k1, k2, k3, k4, h5, h6⟩ := id hK.out
      subst hv
      obtain ⟨v', w', hr, hb2, hg2, hm2⟩ := bro_app2 (UInt8.ofNat (n / 2 ^ (8 * (k - 1 - j)))) hK.out (by rw [List.length_append, lt]; omega) (by omega)
      have HMM := Lib.hid (moved_more HB.out HM.out hm2)
      rw [List.append_assoc, ← hsn] at hb2
      have HNX := Lib.hid (And.intro hb2 (moved_grow HB.out HM.out hg2))
      clear hsn hb2 hg2 hm2 h5 h6 hK HB HM k1 k2 k3 k4
      generalize (l ++ (bigB n k).take j).length = ln at *
      have e1 : 0 ≤ 8 * ((k : Int) - 1 - j) := by omega
      have e2 : 8 * ((k : Int) - 1 - j) ≤ 64 := by omega
      have hc : Value.int .u8 (((n / 2 ^ (8 * (k - 1 - j)) % 256 : Nat)) : Int) = .int .u8 ((UInt8.ofNat (n / 2 ^ (8 * (k - 1 - j)))).toNat : Int) := bcell_of _
      go_wp2_with (at_builtin; go_must (refine append_run rfl _ _ _ _ v' w' ?c1 rfl rfl rfl rfl ?_))
      case c1 =>
        rw [← hr]
        congr 2
      clear hr
      go_wp2_with fail
      go_roundw
      case rel => exact ⟨j + 1, by omega, by go_num, Lib.hid HNX.out.1, Lib.hid HNX.out.2, HMM⟩
      case measure => simp [intOf]; omega
    · obtain rfl : j = k := by omega
      have hfin : bro wr base u0 (l ++ bigB n j) := by
        have := hK.out
        rwa [List.take_of_length_le (by omega)] at this
      have HF := Lib.hid hfin
      clear hfin hK
      go_wp2
      go_ret
      exact ⟨_, rfl, HF.out, HB.out⟩

end Go.Proofs.Ytbkgfpebffmffaa
