/-
  THE STATEMENT 'StampOrderSaid': for every input the function answers true and leaves its arguments as they were. The row's step around the walk of YtejjlmdpejdajaaStampLaws.
-/
import Derived.Test.YtejjlmdpejdajaaOpen
import Derived.Test.YtejjlmdpejdajaaStampLaws
namespace Go.Proofs.Ytejjlmdpejdajaa.lStampOrder
open Go.ChangeShapes Go.WideShapes Go.ChangeAt Go.RowKit
open Go.ChangeMaps (open_string shut_string)
set_option linter.unusedVariables false

theorem own : ownKnob Try.prog.godebug = none := by kernel_rfl
theorem laidOut : laidOutB Try.prog = true := by kernel_rfl
theorem leaves3 : Leaves Try.prog 3 [.int .i64] := leaves_int Try.underlying3
theorem leaves45 : Leaves Try.prog 45 [.int .i64, .int .i64] := by
  refine leaves_struct Try.underlying45 fun j k h => ?_
  match j, k, h with
  | 0, k, h => exact ⟨0, _, _, 0, rfl, leaves3, rfl, h⟩
  | 1, k, h => exact ⟨1, _, _, 0, rfl, leaves3, rfl, h⟩
  | _ + 2, k, h => simp at h

theorem contract (H : Type) (enc : TypeId × Value → H) (W : World) (base : Nat) (args : Array Value) (ds gs : List (DataW H)) (before : List MemPlace)
    (hval0 : ∀ (j : Nat) t v, Try.f13.params[j]? = some t → args[j]? = some v → Value.okWide Try.prog W .any base t v)
    (hW : DataW.Whole enc Try.prog Try.f13.params.toList Rows.stampOrderSpec.vars false W args.toList ds gs before) :
    Calls Try.prog 13 args W fun e W' => ∃ v, e = .returned v ∧ Rows.stampOrderSpec.post enc Try.prog Try.f13 false true false false W args v W' := by
  have hval := hval0
  have hW' := hW
  obtain ⟨p, q, hA0, hV, rfl, hfz, hnd⟩ := hW
  have hA : DataW.TrodAll enc Try.prog W 0 (fun _ => true) true Try.f13.params.toList args.toList ds p := hA0
  rw [Try.params13] at hA hval
  obtain ⟨v0, vs0, d0, ds0, p0, q0, hargs, rfl, rfl, h0, z0⟩ := trodAll_cons hA
  obtain ⟨v1, vs1, d1, ds1, p1, q1, rfl, rfl, rfl, h1, z1⟩ := trodAll_cons z0
  obtain ⟨v2, vs2, d2, ds2, p2, q2, rfl, rfl, rfl, h2, z2⟩ := trodAll_cons z1
  obtain ⟨rfl, rfl, rfl⟩ := trodAll_nil z2
  obtain rfl : args = #[v0, v1, v2] := by cases args; simp_all
  obtain ⟨rfl, rfl⟩ := trodVars_none hV

  have k0 := h0
  have lt0 : ∀ x ∈ p0, x.block < W.heap.size := by obtain ⟨m, hm⟩ := k0; exact DataW.trod_lt m _ _ _ hm
  obtain ⟨cs0, rfl, sz0, lf0⟩ := agg_of Try.underlying45 leaves45 (by kernel_rfl) (hval 0 45 v0 rfl rfl) h0
  obtain ⟨q0_0, q0_1, rfl⟩ := arr2 sz0
  obtain ⟨u, e, l⟩ := lf0 0 _ rfl
  simp at e; subst e
  obtain ⟨x0_0, rfl, y0_0⟩ := l
  obtain ⟨u, e, l⟩ := lf0 1 _ rfl
  simp at e; subst e
  obtain ⟨x0_1, rfl, y0_1⟩ := l
  have k1 := h1
  have lt1 : ∀ x ∈ p1, x.block < W.heap.size := by obtain ⟨m, hm⟩ := k1; exact DataW.trod_lt m _ _ _ hm
  obtain ⟨cs1, rfl, sz1, lf1⟩ := agg_of Try.underlying45 leaves45 (by kernel_rfl) (hval 1 45 v1 rfl rfl) h1
  obtain ⟨q1_0, q1_1, rfl⟩ := arr2 sz1
  obtain ⟨u, e, l⟩ := lf1 0 _ rfl
  simp at e; subst e
  obtain ⟨x1_0, rfl, y1_0⟩ := l
  obtain ⟨u, e, l⟩ := lf1 1 _ rfl
  simp at e; subst e
  obtain ⟨x1_1, rfl, y1_1⟩ := l
  have k2 := h2
  have lt2 : ∀ x ∈ p2, x.block < W.heap.size := by obtain ⟨m, hm⟩ := k2; exact DataW.trod_lt m _ _ _ hm
  obtain ⟨cs2, rfl, sz2, lf2⟩ := agg_of Try.underlying45 leaves45 (by kernel_rfl) (hval 2 45 v2 rfl rfl) h2
  obtain ⟨q2_0, q2_1, rfl⟩ := arr2 sz2
  obtain ⟨u, e, l⟩ := lf2 0 _ rfl
  simp at e; subst e
  obtain ⟨x2_0, rfl, y2_0⟩ := l
  obtain ⟨u, e, l⟩ := lf2 1 _ rfl
  simp at e; subst e
  obtain ⟨x2_1, rfl, y2_1⟩ := l
  clear hA0 hval0
  refine (walk_StampOrder x0_0 x0_1 x1_0 x1_1 x2_0 x2_1 y0_0 y0_1 y1_0 y1_1 y2_0 y2_1 W).mono fun e W' ⟨he, bel⟩ => ?_
  subst he
  exact ⟨_, rfl, _, _, _, [], _, [], hW', trodAll_mk1 (shut_bool Try.underlying4 _), (trodAll_cons_mk (Below.trod laidOut (by kernel_rfl) (of_decide_eq_true (by kernel_rfl)) k0 bel lt0) (trodAll_cons_mk (Below.trod laidOut (by kernel_rfl) (of_decide_eq_true (by kernel_rfl)) k1 bel lt1) (trodAll_cons_mk (Below.trod laidOut (by kernel_rfl) (of_decide_eq_true (by kernel_rfl)) k2 bel lt2) trodAll_mk0))), rfl, bel.frame _, fun h => by cases h⟩

set_option maxRecDepth 100000 in
theorem lifted (os : Os) (started : os.Started) (H : Type) (enc : TypeId × Value → H) :
    ReturnsInHanded {} Try.checked os 13 .any (Rows.stampOrderSpec.pre6 enc Try.prog Try.f13 Rows.stampOrderRow.domain false) (Rows.stampOrderSpec.post enc Try.prog Try.f13 false true false false) := by
  refine returnsInHanded_of_change (C := Try.checked) own started (by kernel_rfl) Try.func13
    (ChangeSpec.witness6 (enc := enc) (C := Try.checked) false ⟨#[], #[.agg #[.int .i64 0, .int .i64 0], .agg #[.int .i64 0, .int .i64 0], .agg #[.int .i64 0, .int .i64 0]], []⟩ 8 (by kernel_rfl) (by kernel_rfl) (by kernel_rfl) (by kernel_rfl)) ?_
  intro W base args ds gs before hval hW _ _
  exact contract H enc W base args ds gs before hval hW

theorem over : Rows.stampOrderRow.holds Try.pinned (OpenSpec.ofChange Rows.stampOrderSpec) :=
  OpenClaim.holds_of_wide 13 Try.f13 rfl rfl rfl rfl rfl rfl rfl ⟨rfl, rfl, rfl, rfl, rfl⟩ rfl rfl rfl rfl rfl (by kernel_rfl) Try.func13 (by kernel_rfl)
    (of_decide_eq_true (by kernel_rfl)) (by unfold Func.isWrapper; first | (rw [if_pos (by decide +kernel)]; kernel_rfl) | (rw [if_neg (by decide +kernel)]; exact ⟨rfl, rfl⟩))
    (fun os started H enc _ => lifted os started H enc)

/-- The statement. -/
theorem proved : Rows.StampOrderSaid := over
#print axioms proved
end Go.Proofs.Ytejjlmdpejdajaa.lStampOrder
