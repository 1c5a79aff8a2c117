/-
  THE STATEMENT 'OwnTablesSaid': for every input the function answers true and leaves its arguments as they were. The row's step around the walk of YtbkgfpebffmffaaOwnTablesM.
-/
import Derived.Test.YtbkgfpebffmffaaOpen
import Derived.Test.YtbkgfpebffmffaaOwnTablesM
import Derived.SizedLaws
namespace Go.Proofs.Ytbkgfpebffmffaa.lOwnTables
open Go.ChangeShapes Go.WideShapes Go.ChangeAt Go.RowKit
open Go.ChangeMaps (open_string shut_string)
set_option linter.unusedVariables false

theorem own : ownKnob Try.prog.godebug = none := by kernel_rfl
theorem laidOut : laidOutB Try.prog = true := by kernel_rfl
theorem leaves3 : Leaves Try.prog 3 [.int .i64] := leaves_int Try.underlying3
theorem leaves23 : Leaves Try.prog 23 [.int .u32] := leaves_int Try.underlying23
theorem leaves9 : Leaves Try.prog 9 [.str] := leaves_str Try.underlying9
theorem leaves25 : Leaves Try.prog 25 [.int .u32, .int .i64] := by
  refine leaves_struct Try.underlying25 fun j k h => ?_
  match j, k, h with
  | 0, k, h => exact ⟨0, _, _, 0, rfl, leaves23, rfl, h⟩
  | 1, k, h => exact ⟨1, _, _, 0, rfl, leaves3, rfl, h⟩
  | _ + 2, k, h => simp at h
theorem leaves50 : Leaves Try.prog 50 [.int .i64, .int .i64, .int .i64, .int .u32, .int .u32, .str, .int .u32, .int .i64] := by
  refine leaves_struct Try.underlying50 fun j k h => ?_
  match j, k, h with
  | 0, k, h => exact ⟨0, _, _, 0, rfl, leaves3, rfl, h⟩
  | 1, k, h => exact ⟨1, _, _, 0, rfl, leaves3, rfl, h⟩
  | 2, k, h => exact ⟨2, _, _, 0, rfl, leaves3, rfl, h⟩
  | 3, k, h => exact ⟨3, _, _, 0, rfl, leaves23, rfl, h⟩
  | 4, k, h => exact ⟨4, _, _, 0, rfl, leaves23, rfl, h⟩
  | 5, k, h => exact ⟨5, _, _, 0, rfl, leaves9, rfl, h⟩
  | 6, k, h => exact ⟨6, _, _, 0, rfl, leaves25, rfl, h⟩
  | 7, k, h => exact ⟨6, _, _, 1, rfl, leaves25, rfl, h⟩
  | _ + 8, k, h => simp at h

theorem slice_sized {H : Type} {enc : TypeId × Value → H} {w : World} {base : Nat} {spare : Nat → Bool} {held : Bool} {t e : TypeId} {a : Option Addr} {len cap : Nat} {d : DataW H} {ps : List MemPlace} {ts : List TypeId} {ds : List (DataW H)} {j : Nat} (ht : Try.prog.underlying t = some (.slice e))
    (h : DataW.Trod enc Try.prog w base spare held t (.slice a len cap) d ps) (hz : (DataW.weightsEach Try.prog ts ds).all (· ≤ reachBytes) = true) (htj : ts[j]? = some t) (hdj : ds[j]? = some d) : len * Try.prog.bytesOf e ≤ 140737488351232 := by
  have e1 := Joins.sliceLen_Trod ht h
  cases d with
  | slice el sp =>
    have h2 := sized_slice hz htj hdj ht
    simp only [Joins.sliceLen] at e1
    subst e1
    exact Nat.le_trans (Nat.mul_le_mul_right _ (Nat.le_add_right _ _)) h2
  | _ => simp only [Joins.sliceLen] at e1; subst e1; simp

set_option maxRecDepth 100000 in
theorem contract (H : Type) (enc : TypeId × Value → H) (W : World) (base : Nat) (args : Array Value) (ds gs : List (DataW H)) (before : List MemPlace)
    (hval0 : ∀ (j : Nat) t v, Try.f6.params[j]? = some t → args[j]? = some v → Value.okWide Try.prog W .any base t v)
    (hW : DataW.Whole enc Try.prog Try.f6.params.toList Rows.ownTablesSpec.vars false W args.toList ds gs before) (hsz0 : (DataW.weightsEach Try.prog (Try.f6.params.toList ++ Rows.ownTablesSpec.plain.varTypes Try.prog) (ds ++ gs)).all (· ≤ reachBytes) = true) :
    Calls Try.prog 6 args W fun e W' => ∃ v, e = .returned v ∧ Rows.ownTablesSpec.post enc Try.prog Try.f6 false true false false W args v W' := by
  have hval := hval0
  have hW' := hW
  obtain ⟨p, q, hA0, hV, rfl, hfz, hnd⟩ := hW
  have hA : DataW.TrodAll enc Try.prog W 0 (fun _ => true) true Try.f6.params.toList args.toList ds p := hA0
  rw [Try.params6] at hA hval
  obtain ⟨v0, vs0, d0, ds0, p0, q0, hargs, rfl, rfl, h0, z0⟩ := trodAll_cons hA
  obtain ⟨v1, vs1, d1, ds1, p1, q1, rfl, rfl, rfl, h1, z1⟩ := trodAll_cons z0
  obtain ⟨v2, vs2, d2, ds2, p2, q2, rfl, rfl, rfl, h2, z2⟩ := trodAll_cons z1
  obtain ⟨rfl, rfl, rfl⟩ := trodAll_nil z2
  obtain rfl : args = #[v0, v1, v2] := by cases args; simp_all
  obtain ⟨rfl, rfl⟩ := trodVars_none hV

  have k0 := h0
  have lt0 : ∀ x ∈ p0, x.block < W.heap.size := by obtain ⟨m, hm⟩ := k0; exact DataW.trod_lt m _ _ _ hm
  obtain ⟨a0, len0, cap0, rfl⟩ := okWide_slice Try.underlying22 (hval 0 22 v0 rfl rfl)
  have r0 : IsRecs [.int .i64, .int .i64, .int .i64, .int .u32, .int .u32, .str, .int .u32, .int .i64] W a0 len0 cap0 := recs_of Try.underlying22 leaves50 (by kernel_rfl) h0
  have k1 := h1
  have lt1 : ∀ x ∈ p1, x.block < W.heap.size := by obtain ⟨m, hm⟩ := k1; exact DataW.trod_lt m _ _ _ hm
  obtain ⟨s1, rfl, rfl, rfl, w1⟩ := open_string Try.underlying9 (hval 1 9 v1 rfl rfl) h1
  have k2 := h2
  have lt2 : ∀ x ∈ p2, x.block < W.heap.size := by obtain ⟨m, hm⟩ := k2; exact DataW.trod_lt m _ _ _ hm
  obtain ⟨s2, rfl, rfl, rfl, w2⟩ := open_string Try.underlying9 (hval 2 9 v2 rfl rfl) h2
  clear hA0 hval0
  have hsz : (DataW.weightsEach Try.prog [22, 9, 9] [_, _, _]).all (· ≤ reachBytes) = true := hsz0
  refine (walk_OwnTables a0 len0 cap0 s1 s2 w1 w2 W r0 (by have h := slice_sized (j := 0) Try.underlying22 k0 hsz rfl rfl; rw [show Try.prog.bytesOf 50 = 64 from by kernel_rfl] at h; omega) (by have h := sized_string (j := 1) hsz rfl rfl; have e : s1.data.toList.length = s1.size := Array.length_toList; simp only [reachBytes] at h; omega) (by have h := sized_string (j := 2) hsz rfl rfl; have e : s2.data.toList.length = s2.size := Array.length_toList; simp only [reachBytes] at h; omega)).mono fun e W' ⟨he, bel⟩ => ?_
  subst he
  exact ⟨_, rfl, _, _, _, [], _, [], hW', trodAll_mk1 (shut_bool Try.underlying4 _), (trodAll_cons_mk (Below.trod laidOut (by kernel_rfl) (of_decide_eq_true (by kernel_rfl)) k0 bel lt0) (trodAll_cons_mk (Below.trod laidOut (by kernel_rfl) (of_decide_eq_true (by kernel_rfl)) k1 bel lt1) (trodAll_cons_mk (Below.trod laidOut (by kernel_rfl) (of_decide_eq_true (by kernel_rfl)) k2 bel lt2) trodAll_mk0))), rfl, bel.frame _, fun h => by cases h⟩

set_option maxRecDepth 100000 in
theorem lifted (os : Os) (started : os.Started) (H : Type) (enc : TypeId × Value → H) :
    ReturnsInHanded {} Try.checked os 6 .any (Rows.ownTablesSpec.pre6 enc Try.prog Try.f6 Rows.ownTablesRow.domain false) (Rows.ownTablesSpec.post enc Try.prog Try.f6 false true false false) := by
  refine returnsInHanded_of_change_sized (C := Try.checked) own started (by kernel_rfl) Try.func6
    (ChangeSpec.witness6 (enc := enc) (C := Try.checked) false ⟨#[], #[.slice none 0 0, .string .empty, .string .empty], []⟩ 8 (by kernel_rfl) (by kernel_rfl) (by kernel_rfl) (by kernel_rfl)) ?_
  intro W base args ds gs before hval hW _ hz _
  exact contract H enc W base args ds gs before hval hW hz

theorem over : Rows.ownTablesRow.holds Try.pinned (OpenSpec.ofChange Rows.ownTablesSpec) :=
  OpenClaim.holds_of_wide 6 Try.f6 rfl rfl rfl rfl rfl rfl rfl ⟨rfl, rfl, rfl, rfl, rfl⟩ rfl rfl rfl rfl rfl (by kernel_rfl) Try.func6 (by kernel_rfl)
    (of_decide_eq_true (by kernel_rfl)) (by unfold Func.isWrapper; first | (rw [if_pos (by decide +kernel)]; kernel_rfl) | (rw [if_neg (by decide +kernel)]; exact ⟨rfl, rfl⟩))
    (fun os started H enc _ => lifted os started H enc)

/-- The statement. -/
theorem proved : Rows.OwnTablesSaid := over
#print axioms proved
end Go.Proofs.Ytbkgfpebffmffaa.lOwnTables
