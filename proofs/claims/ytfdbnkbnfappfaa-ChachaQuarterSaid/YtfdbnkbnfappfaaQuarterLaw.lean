/- The walk of ChachaQuarter. -/
import Derived.Test.YtfdbnkbnfappfaaQuarter
namespace Go.Proofs.Ytfdbnkbnfappfaa
open Go.RowKit
set_option linter.unusedVariables false

theorem quarter_known : (qquarter (286331153, 16909060, 2609737539, 19088743)).1 = 3928658676 := by decide +kernel

theorem eq4 (a b c d : Int) (w : World) : (Op.equalIn 10000 25 (.agg #[.int .u32 a, .int .u32 b, .int .u32 c, .int .u32 d]) (.agg #[.int .u32 a, .int .u32 b, .int .u32 c, .int .u32 d])).run Try.prog w = .ok true w := by
  have u3 := Try.underlying22
  have a3 := Try.isAgg22
  have z3 := Try.sizeOf22
  rw [show (10000 : Nat) = 9999 + 1 from rfl, Op.equalIn]
  simp only [Sem.run_bind, run_underlying Try.underlying25, Result.andThen_ok]
  simp only [Std.Legacy.Range.forIn_eq_forIn_range', Std.Legacy.Range.size, Nat.sub_zero, Nat.add_sub_cancel, Nat.div_one, List.range'_succ, List.range'_zero, List.forIn_cons, List.forIn_nil]
  go_simp

set_option maxHeartbeats 1000000 in
theorem walk_ChachaQuarter (a0 a1 a2 a3 : Int) (w0 : (Lit.int .u32 a0).wf = true) (w1 : (Lit.int .u32 a1).wf = true) (w2 : (Lit.int .u32 a2).wf = true) (w3 : (Lit.int .u32 a3).wf = true) (w : World) :
    Calls Try.prog 3 #[.int .u32 a0, .int .u32 a1, .int .u32 a2, .int .u32 a3] w fun e w' => e = .returned (.bool true) ∧ Below w.heap.size w w' := by
  obtain ⟨a, rfl, ha⟩ := word_of w0
  obtain ⟨b, rfl, hb⟩ := word_of w1
  obtain ⟨c, rfl, hc⟩ := word_of w2
  obtain ⟨d, rfl, hd⟩ := word_of w3
  clear w0 w1 w2 w3
  have ok : Ok4 (a, b, c, d) := ⟨ha, hb, hc, hd⟩
  have o1 := qquarter_ok _ ok
  have o2 := qback_ok _ ok
  have i1 := qback_qquarter _ ok
  have i2 := qquarter_qback _ ok
  have hk := quarter_known
  clear ok
  generalize h1 : qquarter (a, b, c, d) = v1 at *
  generalize h2 : qback (a, b, c, d) = v2 at *
  obtain ⟨x, y, z, u⟩ := v1
  obtain ⟨e, f, g, h⟩ := v2
  obtain ⟨l1, l2, l3, l4⟩ := o1
  obtain ⟨m1, m2, m3, m4⟩ := o2
  have H1 := Lib.hid h1
  have H2 := Lib.hid h2
  have I1 := Lib.hid i1
  have I2 := Lib.hid i2
  have HK := Lib.hid hk
  clear h1 h2 i1 i2 hk
  go_enter Try.func3, Try.ntmps3
  go_wp2_with fail
  refine (code_quarter _ a b c d ha hb hc hd).mono ?_
  rintro e x1 ⟨rfl, hg1⟩
  rw [H1.out]
  unfold R4
  go_wp2_with fail
  refine (code_back _ x y z u l1 l2 l3 l4).mono ?_
  rintro e x2 ⟨rfl, hg2⟩
  rw [I1.out]
  unfold R4
  go_wp2_with fail
  refine (code_back _ a b c d ha hb hc hd).mono ?_
  rintro e x3 ⟨rfl, hg3⟩
  rw [H2.out]
  unfold R4
  go_wp2_with fail
  refine (code_quarter _ e f g h m1 m2 m3 m4).mono ?_
  rintro e x4 ⟨rfl, hg4⟩
  rw [I2.out]
  unfold R4
  go_wp2_with fail
  refine (code_quarter _ 286331153 16909060 2609737539 19088743 (by omega) (by omega) (by omega) (by omega)).mono ?_
  rintro e x5 ⟨rfl, hg5⟩
  have hk := HK.out
  generalize qquarter (286331153, 16909060, 2609737539, 19088743) = v at hk
  obtain ⟨k1, k2, k3, k4⟩ := v
  simp only at hk
  subst hk
  unfold R4
  have he := eq4
  go_wp2_with fail
  go_ret
  exact ⟨rfl, grow_below (grow_trans (grow_trans (grow_trans (grow_trans hg1 hg2) hg3) hg4) hg5) _ (Nat.le_refl _) (by simp)⟩

end Go.Proofs.Ytfdbnkbnfappfaa
