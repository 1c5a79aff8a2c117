/-
  THE STATEMENT 'BucketFairUptoSaid': for every input the function answers true and leaves its arguments as they were, where they hold together at most 1048576 values and letters. The row's step around the walk of YtcimcagplodpeaaFair.
-/
import Derived.Test.YtcimcagplodpeaaOpen
import Derived.Test.YtcimcagplodpeaaFair
import Derived.JoinedCond
import Derived.Test.YtcimcagplodpeaaBulk
namespace Go.Proofs.Ytcimcagplodpeaa.lBucketFair
open Go.ChangeShapes Go.WideShapes Go.ChangeAt Go.RowKit
open Go.ChangeMaps (open_string shut_string)
set_option linter.unusedVariables false

theorem own : ownKnob Try.prog.godebug = none := by kernel_rfl
theorem laidOut : laidOutB Try.prog = true := by kernel_rfl
theorem leaves3 : Leaves Try.prog 3 [.int .i64] := leaves_int Try.underlying3
theorem leaves49 : Leaves Try.prog 49 [.int .u32] := leaves_int Try.underlying49
theorem leaves9 : Leaves Try.prog 9 [.str] := leaves_str Try.underlying9
theorem leaves51 : Leaves Try.prog 51 [.int .u32, .int .i64] := by
  refine leaves_struct Try.underlying51 fun j k h => ?_
  match j, k, h with
  | 0, k, h => exact ⟨0, _, _, 0, rfl, leaves49, rfl, h⟩
  | 1, k, h => exact ⟨1, _, _, 0, rfl, leaves3, rfl, h⟩
  | _ + 2, k, h => simp at h
theorem leaves53 : Leaves Try.prog 53 [.int .i64, .int .i64, .int .i64, .int .u32, .int .u32, .str, .int .u32, .int .i64] := by
  refine leaves_struct Try.underlying53 fun j k h => ?_
  match j, k, h with
  | 0, k, h => exact ⟨0, _, _, 0, rfl, leaves3, rfl, h⟩
  | 1, k, h => exact ⟨1, _, _, 0, rfl, leaves3, rfl, h⟩
  | 2, k, h => exact ⟨2, _, _, 0, rfl, leaves3, rfl, h⟩
  | 3, k, h => exact ⟨3, _, _, 0, rfl, leaves49, rfl, h⟩
  | 4, k, h => exact ⟨4, _, _, 0, rfl, leaves49, rfl, h⟩
  | 5, k, h => exact ⟨5, _, _, 0, rfl, leaves9, rfl, h⟩
  | 6, k, h => exact ⟨6, _, _, 0, rfl, leaves51, rfl, h⟩
  | 7, k, h => exact ⟨6, _, _, 1, rfl, leaves51, rfl, h⟩
  | _ + 8, k, h => simp at h

theorem slice_upto {H : Type} {enc : TypeId × Value → H} {w : World} {base : Nat} {spare : Nat → Bool} {held : Bool} {t e : TypeId} {a : Option Addr} {len cap : Nat} {d : DataW H} {ps : List MemPlace} (ht : Try.prog.underlying t = some (.slice e))
    (h : DataW.Trod enc Try.prog w base spare held t (.slice a len cap) d ps) (hp : Rows.uptoBulk d ≤ 1048576) : len ≤ 1048576 := by
  have e1 := Joins.sliceLen_Trod ht h
  cases d with
  | slice el sp => have := bulks.slice_le el sp; simp only [Joins.sliceLen] at e1; omega
  | _ => simp only [Joins.sliceLen] at e1; omega

theorem contract (H : Type) (enc : TypeId × Value → H) (W : World) (base : Nat) (args : Array Value) (ds gs : List (DataW H)) (before : List MemPlace)
    (hval0 : ∀ (j : Nat) t v, Try.f11.params[j]? = some t → args[j]? = some v → Value.okWide Try.prog W .any base t v)
    (hW : DataW.Whole enc Try.prog Try.f11.params.toList Rows.bucketFairSpec.vars false W args.toList ds gs before) (hk : Rows.uptoSmall H (ds ++ gs) = true) :
    Calls Try.prog 11 args W fun e W' => ∃ v, e = .returned v ∧ Rows.bucketFairSpec.post enc Try.prog Try.f11 false true false false W args v W' := by
  have hval := hval0
  have hW' := hW
  obtain ⟨p, q, hA0, hV, rfl, hfz, hnd⟩ := hW
  have hA : DataW.TrodAll enc Try.prog W 0 (fun _ => true) true Try.f11.params.toList args.toList ds p := hA0
  rw [Try.params11] at hA hval
  obtain ⟨v0, vs0, d0, ds0, p0, q0, hargs, rfl, rfl, h0, z0⟩ := trodAll_cons hA
  obtain ⟨v1, vs1, d1, ds1, p1, q1, rfl, rfl, rfl, h1, z1⟩ := trodAll_cons z0
  obtain ⟨rfl, rfl, rfl⟩ := trodAll_nil z1
  obtain rfl : args = #[v0, v1] := by cases args; simp_all
  obtain ⟨rfl, rfl⟩ := trodVars_none hV
  have part1 : Rows.uptoBulk d1 ≤ 1048576 := by
    have h : Rows.uptoBulkAll _ ≤ 1048576 := of_decide_eq_true hk
    simp only [List.append_nil, List.cons_append, List.nil_append, Rows.uptoBulkAll] at h
    omega
  have k0 := h0
  have lt0 : ∀ x ∈ p0, x.block < W.heap.size := by obtain ⟨m, hm⟩ := k0; exact DataW.trod_lt m _ _ _ hm
  obtain ⟨a0, rfl, rfl, rfl, w0⟩ := open_int Try.underlying49 (hval 0 49 v0 rfl rfl) h0
  have k1 := h1
  have lt1 : ∀ x ∈ p1, x.block < W.heap.size := by obtain ⟨m, hm⟩ := k1; exact DataW.trod_lt m _ _ _ hm
  obtain ⟨a1, len1, cap1, rfl⟩ := okWide_slice Try.underlying48 (hval 1 48 v1 rfl rfl)
  have r1 : IsRecs [.int .i64, .int .i64, .int .i64, .int .u32, .int .u32, .str, .int .u32, .int .i64] W a1 len1 cap1 := recs_of Try.underlying48 leaves53 (by kernel_rfl) h1
  clear hA0 hval0
  refine (walk_BucketFair a0 a1 len1 cap1 w0 W r1 (slice_upto Try.underlying48 h1 part1)).mono fun e W' ⟨he, bel⟩ => ?_
  subst he
  exact ⟨_, rfl, _, _, _, [], _, [], hW', trodAll_mk1 (shut_bool Try.underlying4 _), (trodAll_cons_mk (Below.trod laidOut (by kernel_rfl) (of_decide_eq_true (by kernel_rfl)) k0 bel lt0) (trodAll_cons_mk (Below.trod laidOut (by kernel_rfl) (of_decide_eq_true (by kernel_rfl)) k1 bel lt1) trodAll_mk0)), rfl, bel.frame _, fun h => by cases h⟩

set_option maxRecDepth 100000 in
theorem lifted (os : Os) (started : os.Started) (H : Type) (enc : TypeId × Value → H) (F : Stop.Interp) :
    ReturnsInHanded {} Try.checked os 11 .any ((Rows.OpenSpec.upto Rows.bucketFairSpec).pre6 enc Try.prog Try.f11 Rows.bucketFairUptoRow.domain false) (((Rows.OpenSpec.upto Rows.bucketFairSpec).at F).post enc Try.prog Try.f11 false true false false) := by
  refine returnsInHanded_of_cond (C := Try.checked) (s := Rows.OpenSpec.upto Rows.bucketFairSpec) (k := Rows.uptoSmall) rfl own started (by kernel_rfl) Try.func11
    (OpenSpec.witness (enc := enc) (C := Try.checked) (s := Rows.OpenSpec.upto Rows.bucketFairSpec) (k := Rows.uptoSmall) rfl false ⟨#[], #[.int .u32 0, .slice none 0 0], []⟩ 8 (by kernel_rfl) (by kernel_rfl) (by kernel_rfl)
      (x := ([.lit (.int .u32 0), .nil], [], [])) (by kernel_rfl) rfl (by kernel_rfl)) ?_
  intro W base args ds gs before hval hW _ hk _
  exact contract H enc W base args ds gs before hval hW hk

theorem over : Rows.bucketFairUptoRow.holds Try.pinned (Rows.OpenSpec.upto Rows.bucketFairSpec) :=
  OpenClaim.holds_of_cond 11 Try.f11 rfl rfl rfl rfl rfl rfl rfl ⟨rfl, rfl, rfl, rfl, rfl⟩ rfl rfl rfl rfl rfl (by kernel_rfl) Try.func11 (by kernel_rfl)
    (of_decide_eq_true (by kernel_rfl)) (by unfold Func.isWrapper; first | (rw [if_pos (by decide +kernel)]; kernel_rfl) | (rw [if_neg (by decide +kernel)]; exact ⟨rfl, rfl⟩))
    (fun os started H enc _ F => lifted os started H enc F)

/-- The statement. -/
theorem proved : Rows.BucketFairUptoSaid := over
#print axioms proved
end Go.Proofs.Ytcimcagplodpeaa.lBucketFair
