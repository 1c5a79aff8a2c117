/-
  THE STATEMENT 'PathsOverSaid': for every input the function answers true and leaves its arguments as they were. The row's step around the walk of YtbkgfpebffmffaaPathsOverLaw.
-/
import Derived.Test.YtbkgfpebffmffaaOpen
import Derived.Test.YtbkgfpebffmffaaPathsOverLaw
namespace Go.Proofs.Ytbkgfpebffmffaa.lPathsOver
open Go.ChangeShapes Go.WideShapes Go.ChangeAt Go.RowKit
open Go.ChangeMaps (open_string shut_string)
set_option linter.unusedVariables false

theorem own : ownKnob Try.prog.godebug = none := by kernel_rfl
theorem laidOut : laidOutB Try.prog = true := by kernel_rfl
theorem leaves3 : Leaves Try.prog 3 [.int .i64] := leaves_int Try.underlying3
theorem leaves23 : Leaves Try.prog 23 [.int .u32] := leaves_int Try.underlying23
theorem leaves9 : Leaves Try.prog 9 [.str] := leaves_str Try.underlying9
theorem leaves25 : Leaves Try.prog 25 [.int .u32, .int .i64] := by
  refine leaves_struct Try.underlying25 fun j k h => ?_
  match j, k, h with
  | 0, k, h => exact ⟨0, _, _, 0, rfl, leaves23, rfl, h⟩
  | 1, k, h => exact ⟨1, _, _, 0, rfl, leaves3, rfl, h⟩
  | _ + 2, k, h => simp at h
theorem leaves50 : Leaves Try.prog 50 [.int .i64, .int .i64, .int .i64, .int .u32, .int .u32, .str, .int .u32, .int .i64] := by
  refine leaves_struct Try.underlying50 fun j k h => ?_
  match j, k, h with
  | 0, k, h => exact ⟨0, _, _, 0, rfl, leaves3, rfl, h⟩
  | 1, k, h => exact ⟨1, _, _, 0, rfl, leaves3, rfl, h⟩
  | 2, k, h => exact ⟨2, _, _, 0, rfl, leaves3, rfl, h⟩
  | 3, k, h => exact ⟨3, _, _, 0, rfl, leaves23, rfl, h⟩
  | 4, k, h => exact ⟨4, _, _, 0, rfl, leaves23, rfl, h⟩
  | 5, k, h => exact ⟨5, _, _, 0, rfl, leaves9, rfl, h⟩
  | 6, k, h => exact ⟨6, _, _, 0, rfl, leaves25, rfl, h⟩
  | 7, k, h => exact ⟨6, _, _, 1, rfl, leaves25, rfl, h⟩
  | _ + 8, k, h => simp at h

set_option maxRecDepth 100000 in
theorem contract (H : Type) (enc : TypeId × Value → H) (W : World) (base : Nat) (args : Array Value) (ds gs : List (DataW H)) (before : List MemPlace)
    (hval0 : ∀ (j : Nat) t v, Try.f3.params[j]? = some t → args[j]? = some v → Value.okWide Try.prog W .any base t v)
    (hW : DataW.Whole enc Try.prog Try.f3.params.toList Rows.pathsOverSpec.vars false W args.toList ds gs before) :
    Calls Try.prog 3 args W fun e W' => ∃ v, e = .returned v ∧ Rows.pathsOverSpec.post enc Try.prog Try.f3 false true false false W args v W' := by
  have hval := hval0
  have hW' := hW
  obtain ⟨p, q, hA0, hV, rfl, hfz, hnd⟩ := hW
  have hA : DataW.TrodAll enc Try.prog W 0 (fun _ => true) true Try.f3.params.toList args.toList ds p := hA0
  rw [Try.params3] at hA hval
  obtain ⟨v0, vs0, d0, ds0, p0, q0, hargs, rfl, rfl, h0, z0⟩ := trodAll_cons hA
  obtain ⟨v1, vs1, d1, ds1, p1, q1, rfl, rfl, rfl, h1, z1⟩ := trodAll_cons z0
  obtain ⟨v2, vs2, d2, ds2, p2, q2, rfl, rfl, rfl, h2, z2⟩ := trodAll_cons z1
  obtain ⟨v3, vs3, d3, ds3, p3, q3, rfl, rfl, rfl, h3, z3⟩ := trodAll_cons z2
  obtain ⟨rfl, rfl, rfl⟩ := trodAll_nil z3
  obtain rfl : args = #[v0, v1, v2, v3] := by cases args; simp_all
  obtain ⟨rfl, rfl⟩ := trodVars_none hV

  have k0 := h0
  have lt0 : ∀ x ∈ p0, x.block < W.heap.size := by obtain ⟨m, hm⟩ := k0; exact DataW.trod_lt m _ _ _ hm
  obtain ⟨a0, len0, cap0, rfl⟩ := okWide_slice Try.underlying22 (hval 0 22 v0 rfl rfl)
  have r0 : IsRecs [.int .i64, .int .i64, .int .i64, .int .u32, .int .u32, .str, .int .u32, .int .i64] W a0 len0 cap0 := recs_of Try.underlying22 leaves50 (by kernel_rfl) h0
  have k1 := h1
  have lt1 : ∀ x ∈ p1, x.block < W.heap.size := by obtain ⟨m, hm⟩ := k1; exact DataW.trod_lt m _ _ _ hm
  obtain ⟨cs1, rfl, sz1, lf1⟩ := agg_of Try.underlying25 leaves25 (by kernel_rfl) (hval 1 25 v1 rfl rfl) h1
  obtain ⟨q1_0, q1_1, rfl⟩ := arr2 sz1
  obtain ⟨u, e, l⟩ := lf1 0 _ rfl
  simp at e; subst e
  obtain ⟨x1_0, rfl, y1_0⟩ := l
  obtain ⟨u, e, l⟩ := lf1 1 _ rfl
  simp at e; subst e
  obtain ⟨x1_1, rfl, y1_1⟩ := l
  have k2 := h2
  have lt2 : ∀ x ∈ p2, x.block < W.heap.size := by obtain ⟨m, hm⟩ := k2; exact DataW.trod_lt m _ _ _ hm
  obtain ⟨a2, rfl, rfl, rfl, w2⟩ := open_int Try.underlying3 (hval 2 3 v2 rfl rfl) h2
  have k3 := h3
  have lt3 : ∀ x ∈ p3, x.block < W.heap.size := by obtain ⟨m, hm⟩ := k3; exact DataW.trod_lt m _ _ _ hm
  obtain ⟨a3, rfl, rfl, rfl, w3⟩ := open_int Try.underlying3 (hval 3 3 v3 rfl rfl) h3
  clear hA0 hval0
  refine (walk_PathsOver a0 len0 cap0 x1_0 x1_1 a2 a3 y1_0 y1_1 w2 w3 W r0).mono fun e W' ⟨he, bel⟩ => ?_
  subst he
  exact ⟨_, rfl, _, _, _, [], _, [], hW', trodAll_mk1 (shut_bool Try.underlying4 _), (trodAll_cons_mk (Below.trod laidOut (by kernel_rfl) (of_decide_eq_true (by kernel_rfl)) k0 bel lt0) (trodAll_cons_mk (Below.trod laidOut (by kernel_rfl) (of_decide_eq_true (by kernel_rfl)) k1 bel lt1) (trodAll_cons_mk (Below.trod laidOut (by kernel_rfl) (of_decide_eq_true (by kernel_rfl)) k2 bel lt2) (trodAll_cons_mk (Below.trod laidOut (by kernel_rfl) (of_decide_eq_true (by kernel_rfl)) k3 bel lt3) trodAll_mk0)))), rfl, bel.frame _, fun h => by cases h⟩

set_option maxRecDepth 100000 in
theorem lifted (os : Os) (started : os.Started) (H : Type) (enc : TypeId × Value → H) :
    ReturnsInHanded {} Try.checked os 3 .any (Rows.pathsOverSpec.pre6 enc Try.prog Try.f3 Rows.pathsOverRow.domain false) (Rows.pathsOverSpec.post enc Try.prog Try.f3 false true false false) := by
  refine returnsInHanded_of_change (C := Try.checked) own started (by kernel_rfl) Try.func3
    (ChangeSpec.witness6 (enc := enc) (C := Try.checked) false ⟨#[], #[.slice none 0 0, .agg #[.int .u32 0, .int .i64 0], .int .i64 0, .int .i64 0], []⟩ 8 (by kernel_rfl) (by kernel_rfl) (by kernel_rfl) (by kernel_rfl)) ?_
  intro W base args ds gs before hval hW _ _
  exact contract H enc W base args ds gs before hval hW

theorem over : Rows.pathsOverRow.holds Try.pinned (OpenSpec.ofChange Rows.pathsOverSpec) :=
  OpenClaim.holds_of_wide 3 Try.f3 rfl rfl rfl rfl rfl rfl rfl ⟨rfl, rfl, rfl, rfl, rfl⟩ rfl rfl rfl rfl rfl (by kernel_rfl) Try.func3 (by kernel_rfl)
    (of_decide_eq_true (by kernel_rfl)) (by unfold Func.isWrapper; first | (rw [if_pos (by decide +kernel)]; kernel_rfl) | (rw [if_neg (by decide +kernel)]; exact ⟨rfl, rfl⟩))
    (fun os started H enc _ => lifted os started H enc)

/-- The statement. -/
theorem proved : Rows.PathsOverSaid := over
#print axioms proved
end Go.Proofs.Ytbkgfpebffmffaa.lPathsOver
