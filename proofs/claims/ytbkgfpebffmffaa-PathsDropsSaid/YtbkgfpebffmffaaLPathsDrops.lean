/-
  THE STATEMENT 'PathsDropsSaid': for every input the function answers true and leaves its arguments as they were. The row's step around the walk of YtbkgfpebffmffaaPathsDropsLaw.
-/
import Derived.Test.YtbkgfpebffmffaaOpen
import Derived.Test.YtbkgfpebffmffaaPathsDropsLaw
namespace Go.Proofs.Ytbkgfpebffmffaa.lPathsDrops
open Go.ChangeShapes Go.WideShapes Go.ChangeAt Go.RowKit
open Go.ChangeMaps (open_string shut_string)
set_option linter.unusedVariables false

theorem own : ownKnob Try.prog.godebug = none := by kernel_rfl
theorem laidOut : laidOutB Try.prog = true := by kernel_rfl
theorem leaves3 : Leaves Try.prog 3 [.int .i64] := leaves_int Try.underlying3
theorem leaves23 : Leaves Try.prog 23 [.int .u32] := leaves_int Try.underlying23
theorem leaves9 : Leaves Try.prog 9 [.str] := leaves_str Try.underlying9
theorem leaves25 : Leaves Try.prog 25 [.int .u32, .int .i64] := by
  refine leaves_struct Try.underlying25 fun j k h => ?_
  match j, k, h with
  | 0, k, h => exact ⟨0, _, _, 0, rfl, leaves23, rfl, h⟩
  | 1, k, h => exact ⟨1, _, _, 0, rfl, leaves3, rfl, h⟩
  | _ + 2, k, h => simp at h
theorem leaves50 : Leaves Try.prog 50 [.int .i64, .int .i64, .int .i64, .int .u32, .int .u32, .str, .int .u32, .int .i64] := by
  refine leaves_struct Try.underlying50 fun j k h => ?_
  match j, k, h with
  | 0, k, h => exact ⟨0, _, _, 0, rfl, leaves3, rfl, h⟩
  | 1, k, h => exact ⟨1, _, _, 0, rfl, leaves3, rfl, h⟩
  | 2, k, h => exact ⟨2, _, _, 0, rfl, leaves3, rfl, h⟩
  | 3, k, h => exact ⟨3, _, _, 0, rfl, leaves23, rfl, h⟩
  | 4, k, h => exact ⟨4, _, _, 0, rfl, leaves23, rfl, h⟩
  | 5, k, h => exact ⟨5, _, _, 0, rfl, leaves9, rfl, h⟩
  | 6, k, h => exact ⟨6, _, _, 0, rfl, leaves25, rfl, h⟩
  | 7, k, h => exact ⟨6, _, _, 1, rfl, leaves25, rfl, h⟩
  | _ + 8, k, h => simp at h

set_option maxRecDepth 100000 in
theorem contract (H : Type) (enc : TypeId × Value → H) (W : World) (base : Nat) (args : Array Value) (ds gs : List (DataW H)) (before : List MemPlace)
    (hval0 : ∀ (j : Nat) t v, Try.f5.params[j]? = some t → args[j]? = some v → Value.okWide Try.prog W .any base t v)
    (hW : DataW.Whole enc Try.prog Try.f5.params.toList Rows.pathsDropsSpec.vars false W args.toList ds gs before) :
    Calls Try.prog 5 args W fun e W' => ∃ v, e = .returned v ∧ Rows.pathsDropsSpec.post enc Try.prog Try.f5 false true false false W args v W' := by
  have hval := hval0
  have hW' := hW
  obtain ⟨p, q, hA0, hV, rfl, hfz, hnd⟩ := hW
  have hA : DataW.TrodAll enc Try.prog W 0 (fun _ => true) true Try.f5.params.toList args.toList ds p := hA0
  rw [Try.params5] at hA hval
  obtain ⟨v0, vs0, d0, ds0, p0, q0, hargs, rfl, rfl, h0, z0⟩ := trodAll_cons hA
  obtain ⟨v1, vs1, d1, ds1, p1, q1, rfl, rfl, rfl, h1, z1⟩ := trodAll_cons z0
  obtain ⟨v2, vs2, d2, ds2, p2, q2, rfl, rfl, rfl, h2, z2⟩ := trodAll_cons z1
  obtain ⟨rfl, rfl, rfl⟩ := trodAll_nil z2
  obtain rfl : args = #[v0, v1, v2] := by cases args; simp_all
  obtain ⟨rfl, rfl⟩ := trodVars_none hV

  have k0 := h0
  have lt0 : ∀ x ∈ p0, x.block < W.heap.size := by obtain ⟨m, hm⟩ := k0; exact DataW.trod_lt m _ _ _ hm
  obtain ⟨a0, len0, cap0, rfl⟩ := okWide_slice Try.underlying22 (hval 0 22 v0 rfl rfl)
  have r0 : IsRecs [.int .i64, .int .i64, .int .i64, .int .u32, .int .u32, .str, .int .u32, .int .i64] W a0 len0 cap0 := recs_of Try.underlying22 leaves50 (by kernel_rfl) h0
  have k1 := h1
  have lt1 : ∀ x ∈ p1, x.block < W.heap.size := by obtain ⟨m, hm⟩ := k1; exact DataW.trod_lt m _ _ _ hm
  obtain ⟨a1, rfl, rfl, rfl, w1⟩ := open_int Try.underlying3 (hval 1 3 v1 rfl rfl) h1
  have k2 := h2
  have lt2 : ∀ x ∈ p2, x.block < W.heap.size := by obtain ⟨m, hm⟩ := k2; exact DataW.trod_lt m _ _ _ hm
  obtain ⟨a2, rfl, rfl, rfl, w2⟩ := open_int Try.underlying23 (hval 2 23 v2 rfl rfl) h2
  clear hA0 hval0
  refine (walk_PathsDrops a0 len0 cap0 a1 a2 w1 w2 W r0).mono fun e W' ⟨he, bel⟩ => ?_
  subst he
  exact ⟨_, rfl, _, _, _, [], _, [], hW', trodAll_mk1 (shut_bool Try.underlying4 _), (trodAll_cons_mk (Below.trod laidOut (by kernel_rfl) (of_decide_eq_true (by kernel_rfl)) k0 bel lt0) (trodAll_cons_mk (Below.trod laidOut (by kernel_rfl) (of_decide_eq_true (by kernel_rfl)) k1 bel lt1) (trodAll_cons_mk (Below.trod laidOut (by kernel_rfl) (of_decide_eq_true (by kernel_rfl)) k2 bel lt2) trodAll_mk0))), rfl, bel.frame _, fun h => by cases h⟩

set_option maxRecDepth 100000 in
theorem lifted (os : Os) (started : os.Started) (H : Type) (enc : TypeId × Value → H) :
    ReturnsInHanded {} Try.checked os 5 .any (Rows.pathsDropsSpec.pre6 enc Try.prog Try.f5 Rows.pathsDropsRow.domain false) (Rows.pathsDropsSpec.post enc Try.prog Try.f5 false true false false) := by
  refine returnsInHanded_of_change (C := Try.checked) own started (by kernel_rfl) Try.func5
    (ChangeSpec.witness6 (enc := enc) (C := Try.checked) false ⟨#[], #[.slice none 0 0, .int .i64 0, .int .u32 0], []⟩ 8 (by kernel_rfl) (by kernel_rfl) (by kernel_rfl) (by kernel_rfl)) ?_
  intro W base args ds gs before hval hW _ _
  exact contract H enc W base args ds gs before hval hW

theorem over : Rows.pathsDropsRow.holds Try.pinned (OpenSpec.ofChange Rows.pathsDropsSpec) :=
  OpenClaim.holds_of_wide 5 Try.f5 rfl rfl rfl rfl rfl rfl rfl ⟨rfl, rfl, rfl, rfl, rfl⟩ rfl rfl rfl rfl rfl (by kernel_rfl) Try.func5 (by kernel_rfl)
    (of_decide_eq_true (by kernel_rfl)) (by unfold Func.isWrapper; first | (rw [if_pos (by decide +kernel)]; kernel_rfl) | (rw [if_neg (by decide +kernel)]; exact ⟨rfl, rfl⟩))
    (fun os started H enc _ => lifted os started H enc)

/-- The statement. -/
theorem proved : Rows.PathsDropsSaid := over
#print axioms proved
end Go.Proofs.Ytbkgfpebffmffaa.lPathsDrops
