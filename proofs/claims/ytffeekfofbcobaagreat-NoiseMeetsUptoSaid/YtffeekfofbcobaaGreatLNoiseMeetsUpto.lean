/-
  THE STATEMENT 'NoiseMeetsUptoSaid': for every input the function answers true and leaves its arguments as they were, where they hold together at most 1048576 values and letters. The row's step around the walk of YtffeekfofbcobaaGreatNoiseMeetsM.
-/
import Derived.Test.YtffeekfofbcobaaGreatOpen
import Derived.Test.YtffeekfofbcobaaGreatNoiseMeetsM
import Derived.JoinedCond
import Derived.Test.YtffeekfofbcobaaGreatBulk
namespace Go.Proofs.YtffeekfofbcobaaGreat.lNoiseMeets
open Go.ChangeShapes Go.WideShapes Go.ChangeAt Go.RowKit
open Go.ChangeMaps (open_string shut_string)
set_option linter.unusedVariables false

theorem own : ownKnob Tryz.prog.godebug = none := by kernel_rfl
theorem laidOut : laidOutB Tryz.prog = true := by kernel_rfl
theorem leaves3 : Leaves Tryz.prog 3 [.int .i64] := leaves_int Tryz.underlying3
theorem leaves33 : Leaves Tryz.prog 33 [.int .u32] := leaves_int Tryz.underlying33
theorem leaves9 : Leaves Tryz.prog 9 [.str] := leaves_str Tryz.underlying9
theorem leaves35 : Leaves Tryz.prog 35 [.int .u32, .int .i64] := by
  refine leaves_struct Tryz.underlying35 fun j k h => ?_
  match j, k, h with
  | 0, k, h => exact ⟨0, _, _, 0, rfl, leaves33, rfl, h⟩
  | 1, k, h => exact ⟨1, _, _, 0, rfl, leaves3, rfl, h⟩
  | _ + 2, k, h => simp at h
theorem leaves37 : Leaves Tryz.prog 37 [.int .i64, .int .i64, .int .i64, .int .u32, .int .u32, .str, .int .u32, .int .i64] := by
  refine leaves_struct Tryz.underlying37 fun j k h => ?_
  match j, k, h with
  | 0, k, h => exact ⟨0, _, _, 0, rfl, leaves3, rfl, h⟩
  | 1, k, h => exact ⟨1, _, _, 0, rfl, leaves3, rfl, h⟩
  | 2, k, h => exact ⟨2, _, _, 0, rfl, leaves3, rfl, h⟩
  | 3, k, h => exact ⟨3, _, _, 0, rfl, leaves33, rfl, h⟩
  | 4, k, h => exact ⟨4, _, _, 0, rfl, leaves33, rfl, h⟩
  | 5, k, h => exact ⟨5, _, _, 0, rfl, leaves9, rfl, h⟩
  | 6, k, h => exact ⟨6, _, _, 0, rfl, leaves35, rfl, h⟩
  | 7, k, h => exact ⟨6, _, _, 1, rfl, leaves35, rfl, h⟩
  | _ + 8, k, h => simp at h

theorem slice_upto {H : Type} {enc : TypeId × Value → H} {w : World} {base : Nat} {spare : Nat → Bool} {held : Bool} {t e : TypeId} {a : Option Addr} {len cap : Nat} {d : DataW H} {ps : List MemPlace} (ht : Tryz.prog.underlying t = some (.slice e))
    (h : DataW.Trod enc Tryz.prog w base spare held t (.slice a len cap) d ps) (hp : Rows.uptoBulk d ≤ 1048576) : len ≤ 1048576 := by
  have e1 := Joins.sliceLen_Trod ht h
  cases d with
  | slice el sp => have := bulks.slice_le el sp; simp only [Joins.sliceLen] at e1; omega
  | _ => simp only [Joins.sliceLen] at e1; omega

theorem slice_steps {H : Type} {enc : TypeId × Value → H} {w : World} {base : Nat} {spare : Nat → Bool} {held : Bool} {t e : TypeId} {fs : Array Field} {a : Option Addr} {len cap : Nat} {d : DataW H} {ps : List MemPlace} (ht : Tryz.prog.underlying t = some (.slice e)) (he : Tryz.prog.underlying e = some (.struct fs)) (hc : Tryz.prog.cellsOf e = 8)
    (h5 : ∃ f, fs[5]? = some f ∧ f.offset = 5 ∧ Tryz.prog.underlying f.type = some .string ∧ Tryz.prog.cellsOf f.type = 1) (hr : IsRecs stepKs w a len cap)
    (h : DataW.Trod enc Tryz.prog w base spare held t (.slice a len cap) d ps) (hp : Rows.uptoBulk d ≤ 1048576) : IsSteps w a len cap 1048576 := by
  obtain ⟨⟨h1, h2⟩, hin⟩ := steps_in hr
  obtain ⟨fuel, hf⟩ := h
  rcases DataW.trod_slice ht hf with h0 | ⟨x, l, c, elems, rest, n, _, hcs, hx, hb, hl, hm, hlen, hel, hsp, hns⟩
  · have hcs := h0.1
    simp [Value.cells] at hcs
    obtain ⟨rfl, rfl, rfl⟩ := hcs
    exact ⟨Nat.zero_le _, Nat.le_refl _, Nat.zero_le _, fun i hi => absurd hi (Nat.not_lt_zero _)⟩
  · simp [Value.cells] at hcs
    obtain ⟨rfl, rfl, rfl⟩ := hcs
    obtain ⟨rfl, _⟩ := Prod.mk.inj hx
    have hall : Rows.uptoBulkAll (elems.map (·.1)) + 1 ≤ 1048576 := Nat.le_trans (bulks.slice_elems _ _) hp
    have hlb : len ≤ 1048576 := by
      have := bulks.length_le (elems.map (·.1))
      rw [List.length_map, hlen] at this
      omega
    refine ⟨hlb, h1, h2, fun i hi => ?_⟩
    obtain ⟨v, hv⟩ := hin i hi
    refine ⟨v, hv, ?_⟩
    obtain ⟨f, hf5, ho, hs, hc1⟩ := h5
    have hie : i < elems.length := by omega
    have hy := hel i hi
    rw [List.getElem?_eq_getElem hie, Option.bind_eq_some_iff] at hy
    obtain ⟨cs, hcs, hy⟩ := hy
    obtain ⟨xs, n', _, hyx, _, hxl, hxf⟩ := DataW.trod_struct he hy
    have hz := hxf 5 f hf5
    have h5s : 5 < xs.length := by rw [hxl]; exact (Array.getElem?_eq_some_iff.1 hf5).1
    rw [List.getElem?_eq_getElem h5s, ho, hc1] at hz
    obtain ⟨s, hcs5, hzs, _⟩ := DataW.trod_string hs hz
    have hcell : cs[5]? = some (.string s) := by
      have e1 : ((cs.drop 5).take 1)[0]? = some (.string s) := by rw [hcs5]; rfl
      rw [List.getElem?_take_of_lt (by omega), List.getElem?_drop] at e1
      exact e1
    have hw1 := cell_of_cells hcs 5 _ hcell
    rw [Deep.add_add, hc] at hw1
    obtain ⟨_, x', hx', _, hcv⟩ := hv
    obtain rfl := Option.some.inj hx'
    have hw2 := hcv 5 _ rfl
    rw [hw1] at hw2
    have hsv : s = v.s := Value.string.inj (Option.some.inj hw2)
    subst hsv
    have b1 : Rows.uptoBulk (xs[5]).1 ≤ Rows.uptoBulkAll (xs.map (·.1)) := bulks.part_le (List.mem_map.2 ⟨_, List.getElem_mem h5s, rfl⟩)
    rw [hzs, bulks.string_eq] at b1
    have b2 : Rows.uptoBulk (elems[i]).1 ≤ Rows.uptoBulkAll (elems.map (·.1)) := bulks.part_le (List.mem_map.2 ⟨_, List.getElem_mem hie, rfl⟩)
    rw [hyx] at b2
    simp only [Rows.uptoBulk] at b2
    have e : v.s.data.toList.length = v.s.size := Array.length_toList
    omega

set_option maxRecDepth 100000 in
theorem contract (H : Type) (enc : TypeId × Value → H) (W : World) (base : Nat) (args : Array Value) (ds gs : List (DataW H)) (before : List MemPlace)
    (hval0 : ∀ (j : Nat) t v, Tryz.f4.params[j]? = some t → args[j]? = some v → Value.okWide Tryz.prog W .any base t v)
    (hW : DataW.Whole enc Tryz.prog Tryz.f4.params.toList Rows.noiseMeetsSpec.vars false W args.toList ds gs before) (hk : Rows.uptoSmall H (ds ++ gs) = true) :
    Calls Tryz.prog 4 args W fun e W' => ∃ v, e = .returned v ∧ Rows.noiseMeetsSpec.post enc Tryz.prog Tryz.f4 false true false false W args v W' := by
  have hval := hval0
  have hW' := hW
  obtain ⟨p, q, hA0, hV, rfl, hfz, hnd⟩ := hW
  have hA : DataW.TrodAll enc Tryz.prog W 0 (fun _ => true) true Tryz.f4.params.toList args.toList ds p := hA0
  rw [Tryz.params4] at hA hval
  obtain ⟨v0, vs0, d0, ds0, p0, q0, hargs, rfl, rfl, h0, z0⟩ := trodAll_cons hA
  obtain ⟨v1, vs1, d1, ds1, p1, q1, rfl, rfl, rfl, h1, z1⟩ := trodAll_cons z0
  obtain ⟨v2, vs2, d2, ds2, p2, q2, rfl, rfl, rfl, h2, z2⟩ := trodAll_cons z1
  obtain ⟨rfl, rfl, rfl⟩ := trodAll_nil z2
  obtain rfl : args = #[v0, v1, v2] := by cases args; simp_all
  obtain ⟨rfl, rfl⟩ := trodVars_none hV
  have part1 : Rows.uptoBulk d1 ≤ 1048576 := by
    have h : Rows.uptoBulkAll _ ≤ 1048576 := of_decide_eq_true hk
    simp only [List.append_nil, List.cons_append, List.nil_append, Rows.uptoBulkAll] at h
    omega
  have part2 : Rows.uptoBulk d2 ≤ 1048576 := by
    have h : Rows.uptoBulkAll _ ≤ 1048576 := of_decide_eq_true hk
    simp only [List.append_nil, List.cons_append, List.nil_append, Rows.uptoBulkAll] at h
    omega
  have k0 := h0
  have lt0 : ∀ x ∈ p0, x.block < W.heap.size := by obtain ⟨m, hm⟩ := k0; exact DataW.trod_lt m _ _ _ hm
  obtain ⟨a0, rfl, rfl, rfl, w0⟩ := open_int Tryz.underlying3 (hval 0 3 v0 rfl rfl) h0
  have k1 := h1
  have lt1 : ∀ x ∈ p1, x.block < W.heap.size := by obtain ⟨m, hm⟩ := k1; exact DataW.trod_lt m _ _ _ hm
  obtain ⟨s1, rfl, rfl, rfl, w1⟩ := open_string Tryz.underlying9 (hval 1 9 v1 rfl rfl) h1
  have k2 := h2
  have lt2 : ∀ x ∈ p2, x.block < W.heap.size := by obtain ⟨m, hm⟩ := k2; exact DataW.trod_lt m _ _ _ hm
  obtain ⟨a2, len2, cap2, rfl⟩ := okWide_slice Tryz.underlying32 (hval 2 32 v2 rfl rfl)
  have r2 : IsRecs [.int .i64, .int .i64, .int .i64, .int .u32, .int .u32, .str, .int .u32, .int .i64] W a2 len2 cap2 := recs_of Tryz.underlying32 leaves37 (by kernel_rfl) h2
  clear hA0 hval0
  refine (walk_NoiseMeets a0 s1 a2 len2 cap2 w0 w1 W r2 (by have h := part1; simp only [Rows.uptoBulk] at h; have e : s1.data.toList.length = s1.size := Array.length_toList; omega) (slice_steps Tryz.underlying32 Tryz.underlying37 (by kernel_rfl) ⟨_, rfl, rfl, by kernel_rfl, by kernel_rfl⟩ r2 h2 part2)).mono fun e W' ⟨he, bel⟩ => ?_
  subst he
  exact ⟨_, rfl, _, _, _, [], _, [], hW', trodAll_mk1 (shut_bool Tryz.underlying4 _), (trodAll_cons_mk (Below.trod laidOut (by kernel_rfl) (of_decide_eq_true (by kernel_rfl)) k0 bel lt0) (trodAll_cons_mk (Below.trod laidOut (by kernel_rfl) (of_decide_eq_true (by kernel_rfl)) k1 bel lt1) (trodAll_cons_mk (Below.trod laidOut (by kernel_rfl) (of_decide_eq_true (by kernel_rfl)) k2 bel lt2) trodAll_mk0))), rfl, bel.frame _, fun h => by cases h⟩

set_option maxRecDepth 100000 in
theorem lifted (os : Os) (started : os.Started) (H : Type) (enc : TypeId × Value → H) (F : Stop.Interp) :
    ReturnsInHanded {} Tryz.checked os 4 .any ((Rows.OpenSpec.upto Rows.noiseMeetsSpec).pre6 enc Tryz.prog Tryz.f4 Rows.noiseMeetsUptoRow.domain false) (((Rows.OpenSpec.upto Rows.noiseMeetsSpec).at F).post enc Tryz.prog Tryz.f4 false true false false) := by
  refine returnsInHanded_of_cond (C := Tryz.checked) (s := Rows.OpenSpec.upto Rows.noiseMeetsSpec) (k := Rows.uptoSmall) rfl own started (by kernel_rfl) Tryz.func4
    (OpenSpec.witness (enc := enc) (C := Tryz.checked) (s := Rows.OpenSpec.upto Rows.noiseMeetsSpec) (k := Rows.uptoSmall) rfl false ⟨#[], #[.int .i64 0, .string .empty, .slice none 0 0], []⟩ 8 (by kernel_rfl) (by kernel_rfl) (by kernel_rfl)
      (x := ([.lit (.int .i64 0), .lit (.string []), .nil], [], [])) (by kernel_rfl) rfl (by kernel_rfl)) ?_
  intro W base args ds gs before hval hW _ hk _
  exact contract H enc W base args ds gs before hval hW hk

theorem over : Rows.noiseMeetsUptoRow.holds Tryz.pinned (Rows.OpenSpec.upto Rows.noiseMeetsSpec) :=
  OpenClaim.holds_of_cond 4 Tryz.f4 rfl rfl rfl rfl rfl rfl rfl ⟨rfl, rfl, rfl, rfl, rfl⟩ rfl rfl rfl rfl rfl (by kernel_rfl) Tryz.func4 (by kernel_rfl)
    (of_decide_eq_true (by kernel_rfl)) (by unfold Func.isWrapper; first | (rw [if_pos (by decide +kernel)]; kernel_rfl) | (rw [if_neg (by decide +kernel)]; exact ⟨rfl, rfl⟩))
    (fun os started H enc _ F => lifted os started H enc F)

/-- The statement. -/
theorem proved : Rows.NoiseMeetsUptoSaid := over
#print axioms proved
end Go.Proofs.YtffeekfofbcobaaGreat.lNoiseMeets
