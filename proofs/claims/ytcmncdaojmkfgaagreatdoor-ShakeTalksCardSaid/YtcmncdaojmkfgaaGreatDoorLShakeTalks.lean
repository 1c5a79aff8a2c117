/-
  THE STATEMENT 'ShakeTalksSaid': for every input the function answers true and leaves its arguments as they were. The row's step around the walk of YtcmncdaojmkfgaaGreatDoorShakeTalksLaw.
-/
import Derived.Test.YtcmncdaojmkfgaaGreatDoorOpen
import Derived.Test.YtcmncdaojmkfgaaGreatDoorShakeTalksLaw
import Derived.LaidMore
import Derived.OpenShut
import Derived.SevenTiedAt
import Derived.Deep.DeepHandedRow
import Derived.Deep.DeepWitnessRowRef
import Derived.Test.YtcmncdaojmkfgaaGreatDoorCards
import Derived.Test.YtcmncdaojmkfgaaGreatDoorTie
namespace Go.Proofs.YtcmncdaojmkfgaaGreatDoor.lShakeTalks
open Go.ChangeShapes Go.WideShapes Go.ChangeAt Go.RowKit
open Go.ChangeMaps (open_string shut_string)
set_option linter.unusedVariables false

theorem own : ownKnob Tryz.prog.godebug = none := by kernel_rfl
theorem laidOut : laidOutB Tryz.prog = true := by kernel_rfl
theorem leaves3 : Leaves Tryz.prog 3 [.int .i64] := leaves_int Tryz.underlying3
theorem leaves9 : Leaves Tryz.prog 9 [.str] := leaves_str Tryz.underlying9
theorem leaves23 : Leaves Tryz.prog 23 [.int .i64, .str, .str, .str] := by
  refine leaves_struct Tryz.underlying23 fun j k h => ?_
  match j, k, h with
  | 0, k, h => exact ⟨0, _, _, 0, rfl, leaves3, rfl, h⟩
  | 1, k, h => exact ⟨1, _, _, 0, rfl, leaves9, rfl, h⟩
  | 2, k, h => exact ⟨2, _, _, 0, rfl, leaves9, rfl, h⟩
  | 3, k, h => exact ⟨3, _, _, 0, rfl, leaves9, rfl, h⟩
  | _ + 4, k, h => simp at h

set_option maxRecDepth 100000 in
theorem contract (H : Type) (enc : TypeId × Value → H) (W : World) (base : Nat) (args : Array Value) (ds gs : List (DataW H)) (before : List MemPlace)
    (hval0 : ∀ (j : Nat) t v, Tryz.f5.params[j]? = some t → args[j]? = some v → Value.okWide Tryz.prog W .any base t v)
    (hW : DataW.Whole enc Tryz.prog Tryz.f5.params.toList Rows.shakeTalksSpec.vars false W args.toList ds gs before) :
    Calls Tryz.prog 5 args W fun e W' => ∃ v, e = .returned v ∧ Rows.shakeTalksSpec.post enc Tryz.prog Tryz.f5 false true false false W args v W' := by
  have hval := hval0
  have hW' := hW
  obtain ⟨p, q, hA0, hV, rfl, hfz, hnd⟩ := hW
  have hA : DataW.TrodAll enc Tryz.prog W 0 (fun _ => true) true Tryz.f5.params.toList args.toList ds p := hA0
  rw [Tryz.params5] at hA hval
  obtain ⟨v0, vs0, d0, ds0, p0, q0, hargs, rfl, rfl, h0, z0⟩ := trodAll_cons hA
  obtain ⟨v1, vs1, d1, ds1, p1, q1, rfl, rfl, rfl, h1, z1⟩ := trodAll_cons z0
  obtain ⟨v2, vs2, d2, ds2, p2, q2, rfl, rfl, rfl, h2, z2⟩ := trodAll_cons z1
  obtain ⟨v3, vs3, d3, ds3, p3, q3, rfl, rfl, rfl, h3, z3⟩ := trodAll_cons z2
  obtain ⟨v4, vs4, d4, ds4, p4, q4, rfl, rfl, rfl, h4, z4⟩ := trodAll_cons z3
  obtain ⟨rfl, rfl, rfl⟩ := trodAll_nil z4
  obtain rfl : args = #[v0, v1, v2, v3, v4] := by cases args; simp_all
  obtain ⟨rfl, rfl⟩ := trodVars_none hV

  have k0 := h0
  have lt0 : ∀ x ∈ p0, x.block < W.heap.size := by obtain ⟨m, hm⟩ := k0; exact DataW.trod_lt m _ _ _ hm
  obtain ⟨cs0, rfl, sz0, lf0⟩ := agg_of Tryz.underlying23 leaves23 (by kernel_rfl) (hval 0 23 v0 rfl rfl) h0
  obtain ⟨q0_0, q0_1, q0_2, q0_3, rfl⟩ := arr4 sz0
  obtain ⟨u, e, l⟩ := lf0 0 _ rfl
  simp at e; subst e
  obtain ⟨x0_0, rfl, y0_0⟩ := l
  obtain ⟨u, e, l⟩ := lf0 1 _ rfl
  simp at e; subst e
  obtain ⟨x0_1, rfl, y0_1⟩ := l
  obtain ⟨u, e, l⟩ := lf0 2 _ rfl
  simp at e; subst e
  obtain ⟨x0_2, rfl, y0_2⟩ := l
  obtain ⟨u, e, l⟩ := lf0 3 _ rfl
  simp at e; subst e
  obtain ⟨x0_3, rfl, y0_3⟩ := l
  have k1 := h1
  have lt1 : ∀ x ∈ p1, x.block < W.heap.size := by obtain ⟨m, hm⟩ := k1; exact DataW.trod_lt m _ _ _ hm
  obtain ⟨s1, rfl, rfl, rfl, w1⟩ := open_string Tryz.underlying9 (hval 1 9 v1 rfl rfl) h1
  have k2 := h2
  have lt2 : ∀ x ∈ p2, x.block < W.heap.size := by obtain ⟨m, hm⟩ := k2; exact DataW.trod_lt m _ _ _ hm
  obtain ⟨s2, rfl, rfl, rfl, w2⟩ := open_string Tryz.underlying9 (hval 2 9 v2 rfl rfl) h2
  have k3 := h3
  have lt3 : ∀ x ∈ p3, x.block < W.heap.size := by obtain ⟨m, hm⟩ := k3; exact DataW.trod_lt m _ _ _ hm
  obtain ⟨s3, rfl, rfl, rfl, w3⟩ := open_string Tryz.underlying9 (hval 3 9 v3 rfl rfl) h3
  have k4 := h4
  have lt4 : ∀ x ∈ p4, x.block < W.heap.size := by obtain ⟨m, hm⟩ := k4; exact DataW.trod_lt m _ _ _ hm
  obtain ⟨a4, len4, cap4, rfl⟩ := okWide_slice Tryz.underlying41 (hval 4 41 v4 rfl rfl)
  have r4 : IsRecs [.str] W a4 len4 cap4 := recs_of Tryz.underlying41 leaves9 (by kernel_rfl) h4
  clear hA0 hval0
  refine (walk_ShakeTalks x0_0 x0_1 x0_2 x0_3 s1 s2 s3 a4 len4 cap4 y0_0 y0_1 y0_2 y0_3 w1 w2 w3 W r4).mono fun e W' ⟨he, bel⟩ => ?_
  subst he
  exact ⟨_, rfl, _, _, _, [], _, [], hW', trodAll_mk1 (shut_bool Tryz.underlying4 _), (trodAll_cons_mk (Below.trod laidOut (by kernel_rfl) (of_decide_eq_true (by kernel_rfl)) k0 bel lt0) (trodAll_cons_mk (Below.trod laidOut (by kernel_rfl) (of_decide_eq_true (by kernel_rfl)) k1 bel lt1) (trodAll_cons_mk (Below.trod laidOut (by kernel_rfl) (of_decide_eq_true (by kernel_rfl)) k2 bel lt2) (trodAll_cons_mk (Below.trod laidOut (by kernel_rfl) (of_decide_eq_true (by kernel_rfl)) k3 bel lt3) (trodAll_cons_mk (Below.trod laidOut (by kernel_rfl) (of_decide_eq_true (by kernel_rfl)) k4 bel lt4) trodAll_mk0))))), rfl, bel.frame _, fun h => by cases h⟩

set_option maxRecDepth 100000 in
/-- A world in which the listed variables lie as the program's text lays them. -/
noncomputable def laidWorld (os : Os) : World := { World.doorLaid Tryz.prog 19 os with heap := ((World.doorLaid Tryz.prog 19 os).heap.modify 1 fun o => match o with | .cells _ t fr => .cells (Pinned.utf8FirstZ.map fun (n : Nat) => Value.int .u8 (n : Int)).toArray t fr | o => o) }
theorem laidWorld_met (os : Os) (args : Array Value) : laidMetH Tryz.prog [("unicode/utf8.acceptRanges", Rows.laid_unicode_utf8_acceptRanges), ("unicode/utf8.first", Rows.laid_unicode_utf8_first)] ((laidWorld os).forCall (fun _ _ => 0) ⟨#[], args, []⟩).memory :=
  laidMetH_of_parts3 (fuel := 8) (laidMet_of_run' 8 (by kernel_rfl) (by kernel_rfl)) (by kernel_rfl) (by kernel_rfl)

set_option maxRecDepth 100000 in
theorem lifted (os : Os) (started : os.Started) (H : Type) (enc : TypeId × Value → H) :
    ReturnsInHanded {} Tryz.checked os 5 .any (fun w args => (Rows.shakeTalksSpec.pre enc Tryz.prog Tryz.f5 [] false w args ∧ laidMetH Tryz.prog [("unicode/utf8.acceptRanges", Rows.laid_unicode_utf8_acceptRanges), ("unicode/utf8.first", Rows.laid_unicode_utf8_first)] w) ∧ sizedMet enc Tryz.prog Tryz.f5 (OpenSpec.ofChange Rows.shakeTalksSpec) false w args) (Rows.shakeTalksSpec.post enc Tryz.prog Tryz.f5 false true false false) := by
  refine returnsInHanded_of_change_and (C := Tryz.checked) (X := fun w _ => laidMetH Tryz.prog [("unicode/utf8.acceptRanges", Rows.laid_unicode_utf8_acceptRanges), ("unicode/utf8.first", Rows.laid_unicode_utf8_first)] w) (fun _ _ _ hh h => h.of_heap hh) own started (by kernel_rfl) Tryz.func5
    (ChangeSpec.witness_shaped (enc := enc) (C := Tryz.checked) (os := os) (X := fun w _ => laidMetH Tryz.prog [("unicode/utf8.acceptRanges", Rows.laid_unicode_utf8_acceptRanges), ("unicode/utf8.first", Rows.laid_unicode_utf8_first)] w) false (laidWorld os) #[.agg #[.int .i64 0, .string .empty, .string .empty, .string .empty], .string .empty, .string .empty, .string .empty, .slice none 0 0] 8 rfl (World.shaped_of_RefB (by kernel_rfl) (by kernel_rfl)) (by kernel_rfl) (by kernel_rfl) (by kernel_rfl) (laidWorld_met os _)) ?_
  intro W base args ds gs before hval hW _ hz _ _
  exact contract H enc W base args ds gs before hval hW

theorem over : Rows.ShakeTalksSaid :=
  OpenClaim.holds_of_wide 5 Tryz.f5 rfl rfl rfl rfl rfl rfl rfl ⟨rfl, rfl, rfl, rfl, rfl⟩ rfl rfl rfl rfl rfl (by kernel_rfl) Tryz.func5 (by kernel_rfl)
    (of_decide_eq_true (by kernel_rfl)) (by unfold Func.isWrapper; first | (rw [if_pos (by decide +kernel)]; kernel_rfl) | (rw [if_neg (by decide +kernel)]; exact ⟨rfl, rfl⟩))
    (fun os started H enc _ => lifted os started H enc)

/-- The statement. -/
theorem proved : Rows.ShakeTalksCardSaid :=
  Claim7.holds_tied_plain_at .later [] [.data, .pinned] true (true, "35d6b60a82c6ae487ced9bc510de84a42fe4135fabf04c9f5f887da2c3335f2d") false
    over (fun _ h => by cases h) (by kernel_rfl) (fun _ h => by cases h) shakeTalks_row_tie rfl ⟨rfl, rfl⟩ (by kernel_rfl) rfl
    (fun f fn hf hfn => by
      obtain rfl : f = 5 := Option.some.inj ((show Tryz.prog.funcNamed "souterrain/souterrainkeep.ShakeTalks" = some 5 by kernel_rfl).symm.trans hf) |>.symm
      obtain rfl : fn = Tryz.f5 := (Option.some.inj (Tryz.func5.symm.trans hfn)).symm
      exact ⟨by kernel_rfl, fun j t ht => by
        rw [Tryz.params5] at ht
        have hm : t ∈ [23, 9, 9, 9, 41] := by simpa using Array.mem_of_getElem? ht
        have hall : ([23, 9, 9, 9, 41].all fun u => !Tryz.prog.wantsStandIn u) = true := by kernel_rfl
        exact (show Tryz.prog.wantsStandIn t = false by simpa using List.all_eq_true.1 hall t hm)⟩)
    (by kernel_rfl)
#print axioms proved
end Go.Proofs.YtcmncdaojmkfgaaGreatDoor.lShakeTalks
