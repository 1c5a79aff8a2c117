/- Two slices of the same paths are the same. -/
import Derived.Test.YtbkgfpebffmffaaPathsLongestLaw
namespace Go.Proofs.Ytbkgfpebffmffaa
open Go.RowKit
set_option linter.unusedVariables false

/-- A slice that holds these paths. -/
def PathsIn (w : World) (v : Value) (l : List (Pf × Int)) : Prop := ∃ ao cap, v = .slice ao l.length cap ∧ ∀ i (hi : i < l.length), ∃ x, ao = some x ∧ x.block < w.heap.size ∧ PathIn w x i l[i]
theorem prow.paths {w : World} {base : Nat} {v : Value} {l : List (Pf × Int)} (h : prow w base v l) : PathsIn w v l := by
  obtain ⟨ao, cap, hv, ho, hc⟩ := prow_val h
  refine ⟨ao, cap, hv, fun i hi => ?_⟩
  obtain ⟨x, hx, hP⟩ := hc i hi
  refine ⟨x, hx, ?_, hP⟩
  obtain ⟨_, cs, f, hk⟩ := prow_own h x.block (ho x hx)
  exact lt_of_obj hk
theorem PathsIn.keptN {w w' : World} {v : Value} {l : List (Pf × Int)} (h : PathsIn w v l) (g : w.grownBy w' none) : PathsIn w' v l := by
  obtain ⟨ao, cap, hv, hc⟩ := h
  refine ⟨ao, cap, hv, fun i hi => ?_⟩
  obtain ⟨x, hx, hl, hP⟩ := hc i hi
  exact ⟨x, hx, Nat.lt_of_lt_of_le hl g.size, hP.kept g (by simp)⟩

set_option maxHeartbeats 4000000 in
theorem code_kpeq (w : World) (u v : Value) (l : List (Pf × Int)) (hu : PathsIn w u l) (hv : PathsIn w v l) (h64 : l.length ≤ 1000000) :
    Calls Try.prog 10 #[u, v] w fun e w' => e = .returned (.bool true) ∧ w.grownBy w' none := by
  obtain ⟨ao, cap, rfl, hc⟩ := hu
  obtain ⟨bo, cap2, rfl, hd⟩ := hv
  have HC := Lib.hid hc
  have HD := Lib.hid hd
  have q0 : ((l.length : Int) != (l.length : Int)) = false := by simp
  clear hc hd
  go_enter Try.func10, Try.ntmps10
  go_wp2_with fail
  go_loopw [14] (fun i wr => ∃ k : Nat, k ≤ l.length ∧ i = .int .i64 k ∧ Hid (w.grownBy wr none)) (fun i _ => l.length - (intOf i).toNat)
  case atStart => exact ⟨0, by omega, rfl, Lib.hid (grow_refl _ _)⟩
  case round =>
    obtain ⟨k, hk, rfl, hg⟩ := hrel
    by_cases hlk : k < l.length
    · obtain ⟨x, hx, _, hP⟩ := HC.out k hlk
      obtain ⟨y, hy, _, hQ⟩ := HD.out k hlk
      subst hx hy
      obtain ⟨c0, c1, c2⟩ := hP.kept hg.out (by simp)
      have ga := World.grownBy_alloc wr (.cells #[.int .u32 (addrP l[k].1 : Int), .int .i64 (l[k].1.length : Int), .int .i64 l[k].2] 34) none
      obtain ⟨e0, e1, e2⟩ := hQ.kept (grow_trans hg.out ga) (by simp)
      have hb := Blk.new wr 34 [.int .u32 (addrP l[k].1 : Int), .int .i64 (l[k].1.length : Int), .int .i64 l[k].2]
      have d0 := hb.cell 0
      have d1 := hb.cell 1
      have d2 := hb.cell 2
      have HG := Lib.hid (grow_trans hg.out ga)
      generalize l[k] = px at *
      clear hP hQ ga hb
      go_wp2_with fail
      go_quiet (fail)
      go_wp2_with fail
      exact ⟨⟨k + 1, by omega, by go_num, Lib.hid (grow_drewN HG.out _)⟩, by simp [intOf]; omega⟩
    · obtain rfl : k = l.length := by omega
      go_wp2_with fail
      go_ret
      exact ⟨rfl, hg.out⟩

end Go.Proofs.Ytbkgfpebffmffaa
