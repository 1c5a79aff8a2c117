/-
  THE STATEMENT 'ShaPiecesUptoSaid': for every input the function answers true and leaves its arguments as they were, where they hold together at most 1048576 values and letters. The row's step around the walk of YtdakmkbcepccbaaShaPiecesLaw.
-/
import Derived.Test.YtdakmkbcepccbaaOpen
import Derived.Test.YtdakmkbcepccbaaShaPiecesLaw
import Derived.JoinedCond
import Derived.SliceStrings
import Derived.Test.YtdakmkbcepccbaaBulk
namespace Go.Proofs.Ytdakmkbcepccbaa.lShaPieces
open Go.ChangeShapes Go.WideShapes Go.ChangeAt Go.RowKit
open Go.ChangeMaps (open_string shut_string)
set_option linter.unusedVariables false

theorem own : ownKnob Try.prog.godebug = none := by kernel_rfl
theorem laidOut : laidOutB Try.prog = true := by kernel_rfl
theorem leaves9 : Leaves Try.prog 9 [.str] := leaves_str Try.underlying9

theorem slice_upto {H : Type} {enc : TypeId × Value → H} {w : World} {base : Nat} {spare : Nat → Bool} {held : Bool} {t e : TypeId} {a : Option Addr} {len cap : Nat} {d : DataW H} {ps : List MemPlace} (ht : Try.prog.underlying t = some (.slice e))
    (h : DataW.Trod enc Try.prog w base spare held t (.slice a len cap) d ps) (hp : Rows.uptoBulk d ≤ 1048576) : len ≤ 1048576 := by
  have e1 := Joins.sliceLen_Trod ht h
  cases d with
  | slice el sp => have := bulks.slice_le el sp; simp only [Joins.sliceLen] at e1; omega
  | _ => simp only [Joins.sliceLen] at e1; omega

theorem slice_strs {H : Type} {enc : TypeId × Value → H} {w : World} {base : Nat} {spare : Nat → Bool} {held : Bool} {t e : TypeId} {a : Option Addr} {len cap : Nat} {d : DataW H} {ps : List MemPlace} (ht : Try.prog.underlying t = some (.slice e)) (he : Try.prog.underlying e = some .string) (hc : Try.prog.cellsOf e = 1)
    (h : DataW.Trod enc Try.prog w base spare held t (.slice a len cap) d ps) (hp : Rows.uptoBulk d ≤ 1048576) : IsStrs w a len cap 1048576 := by
  obtain ⟨fuel, hf⟩ := h
  rcases open_strings ht he hc hf with ⟨hcs, hx⟩ | ⟨a', len', cap', ss, hcs, _, hl, hm, hz, hx, hcell, hsz⟩
  · simp [Value.cells] at hcs
    obtain ⟨rfl, rfl, rfl⟩ := hcs
    exact ⟨[], rfl, Nat.le_refl _, Nat.zero_le _, by simp, fun i hi => absurd hi (Nat.not_lt_zero _)⟩
  · simp [Value.cells] at hcs
    obtain ⟨rfl, rfl, rfl⟩ := hcs
    obtain ⟨rfl, _⟩ := Prod.mk.inj hx
    have e : ∀ l : List ByteArray, Rows.uptoBulkAll (strs (H := H) l) = (l.map (·.data.toList)).flatten.length + l.length := by
      intro l
      induction l with
      | nil => simp [strs, Rows.uptoBulkAll]
      | cons x r ih =>
        have e1 : strs (H := H) (x :: r) = .lit (.string x.data.toList) :: strs r := rfl
        rw [e1]
        simp only [Rows.uptoBulkAll, Rows.uptoBulk, ih, List.map_cons, List.flatten_cons, List.length_append, List.length_cons]
        omega
    have hb : Rows.uptoBulkAll (strs (H := H) (ss.take len)) ≤ 1048576 := by simp only [Rows.uptoBulk] at hp; omega
    have hlen : (ss.take len).length = len := by rw [List.length_take, hz]; split <;> omega
    rw [e] at hb
    refine ⟨(ss.take len).map (·.data.toList), by rw [List.length_map]; exact hlen, hl, hm, by rw [List.length_map]; exact hb, fun i hi => ?_⟩
    rw [List.length_map] at hi
    have hi2 : i < ss.length := by rw [List.length_take] at hi; omega
    have hc := hcell i hi2
    refine ⟨_, rfl, ?_⟩
    rw [hc, List.getElem_map, List.getElem_take, List.getD_eq_getElem?_getD, List.getElem?_eq_getElem hi2]
    rfl

set_option maxRecDepth 100000 in
theorem contract (H : Type) (enc : TypeId × Value → H) (W : World) (base : Nat) (args : Array Value) (ds gs : List (DataW H)) (before : List MemPlace)
    (hval0 : ∀ (j : Nat) t v, Try.f3.params[j]? = some t → args[j]? = some v → Value.okWide Try.prog W .any base t v)
    (hW : DataW.Whole enc Try.prog Try.f3.params.toList Rows.shaPiecesSpec.vars false W args.toList ds gs before) (hk : Rows.uptoSmall H (ds ++ gs) = true) :
    Calls Try.prog 3 args W fun e W' => ∃ v, e = .returned v ∧ Rows.shaPiecesSpec.post enc Try.prog Try.f3 false true false false W args v W' := by
  have hval := hval0
  have hW' := hW
  obtain ⟨p, q, hA0, hV, rfl, hfz, hnd⟩ := hW
  have hA : DataW.TrodAll enc Try.prog W 0 (fun _ => true) true Try.f3.params.toList args.toList ds p := hA0
  rw [Try.params3] at hA hval
  obtain ⟨v0, vs0, d0, ds0, p0, q0, hargs, rfl, rfl, h0, z0⟩ := trodAll_cons hA
  obtain ⟨rfl, rfl, rfl⟩ := trodAll_nil z0
  obtain rfl : args = #[v0] := by cases args; simp_all
  obtain ⟨rfl, rfl⟩ := trodVars_none hV
  have part0 : Rows.uptoBulk d0 ≤ 1048576 := by
    have h : Rows.uptoBulkAll _ ≤ 1048576 := of_decide_eq_true hk
    simp only [List.append_nil, List.cons_append, List.nil_append, Rows.uptoBulkAll] at h
    omega
  have k0 := h0
  have lt0 : ∀ x ∈ p0, x.block < W.heap.size := by obtain ⟨m, hm⟩ := k0; exact DataW.trod_lt m _ _ _ hm
  obtain ⟨a0, len0, cap0, rfl⟩ := okWide_slice Try.underlying22 (hval 0 22 v0 rfl rfl)
  have r0 : IsRecs [.str] W a0 len0 cap0 := recs_of Try.underlying22 leaves9 (by kernel_rfl) h0
  clear hA0 hval0
  refine (walk_ShaPieces a0 len0 cap0 W r0 (slice_strs Try.underlying22 Try.underlying9 (by kernel_rfl) h0 part0)).mono fun e W' ⟨he, bel⟩ => ?_
  subst he
  exact ⟨_, rfl, _, _, _, [], _, [], hW', trodAll_mk1 (shut_bool Try.underlying4 _), (trodAll_cons_mk (Below.trod laidOut (by kernel_rfl) (of_decide_eq_true (by kernel_rfl)) k0 bel lt0) trodAll_mk0), rfl, bel.frame _, fun h => by cases h⟩

set_option maxRecDepth 100000 in
theorem lifted (os : Os) (started : os.Started) (H : Type) (enc : TypeId × Value → H) (F : Stop.Interp) :
    ReturnsInHanded {} Try.checked os 3 .any ((Rows.OpenSpec.upto Rows.shaPiecesSpec).pre6 enc Try.prog Try.f3 Rows.shaPiecesUptoRow.domain false) (((Rows.OpenSpec.upto Rows.shaPiecesSpec).at F).post enc Try.prog Try.f3 false true false false) := by
  refine returnsInHanded_of_cond (C := Try.checked) (s := Rows.OpenSpec.upto Rows.shaPiecesSpec) (k := Rows.uptoSmall) rfl own started (by kernel_rfl) Try.func3
    (OpenSpec.witness (enc := enc) (C := Try.checked) (s := Rows.OpenSpec.upto Rows.shaPiecesSpec) (k := Rows.uptoSmall) rfl false ⟨#[], #[.slice none 0 0], []⟩ 8 (by kernel_rfl) (by kernel_rfl) (by kernel_rfl)
      (x := ([.nil], [], [])) (by kernel_rfl) rfl (by kernel_rfl)) ?_
  intro W base args ds gs before hval hW _ hk _
  exact contract H enc W base args ds gs before hval hW hk

theorem over : Rows.shaPiecesUptoRow.holds Try.pinned (Rows.OpenSpec.upto Rows.shaPiecesSpec) :=
  OpenClaim.holds_of_cond 3 Try.f3 rfl rfl rfl rfl rfl rfl rfl ⟨rfl, rfl, rfl, rfl, rfl⟩ rfl rfl rfl rfl rfl (by kernel_rfl) Try.func3 (by kernel_rfl)
    (of_decide_eq_true (by kernel_rfl)) (by unfold Func.isWrapper; first | (rw [if_pos (by decide +kernel)]; kernel_rfl) | (rw [if_neg (by decide +kernel)]; exact ⟨rfl, rfl⟩))
    (fun os started H enc _ F => lifted os started H enc F)

/-- The statement. -/
theorem proved : Rows.ShaPiecesUptoSaid := over
#print axioms proved
end Go.Proofs.Ytdakmkbcepccbaa.lShaPieces
