/-
  Several texts of this claim in one: DeskOther, DeskAnswered.
-/
import Derived.Test.YtmomfbkpniblgaaGreatDoorDg09
import Derived.Test.YtmomfbkpniblgaaGreatDoorDgKdf
import Derived.Test.YtmomfbkpniblgaaGreatDoorDg06
import Derived.Test.YtmomfbkpniblgaaGreatDoorDgDeskBoxes
import Derived.Test.YtmomfbkpniblgaaGreatDoorDgDeskAny
import Derived.Laws.EntriesVeiled
import Derived.Test.YtmomfbkpniblgaaGreatDoorDgDeskSum
import Derived.Test.YtmomfbkpniblgaaGreatDoorDgBaseEnc
namespace Go.Proofs.YtmomfbkpniblgaaGreatDoor
open Go.RowKit
set_option linter.unusedVariables false


theorem find_other (word : List UInt8) (h1 : word ≠ [115, 101, 97, 108]) (h2 : word ≠ [111, 112, 101, 110]) : Instr.findNow .string (.string ⟨word.toArray⟩) (#[{ key := .string ⟨#[115, 101, 97, 108]⟩, val := .agg #[.func (.func 101) #[] #[], .func (.func 102) #[] #[]], born := 0 }, { key := .string ⟨#[111, 112, 101, 110]⟩, val := .agg #[.func (.func 103) #[] #[], .func (.func 104) #[] #[]], born := 1 }] : Array MapEntry).toList 0 = some none := by
  rcases MapKept.findNow_spec (d := .string) (k := .string ⟨word.toArray⟩) (by simp [MapKept.IsKey]) (#[{ key := .string ⟨#[115, 101, 97, 108]⟩, val := .agg #[.func (.func 101) #[] #[], .func (.func 102) #[] #[]], born := 0 }, { key := .string ⟨#[111, 112, 101, 110]⟩, val := .agg #[.func (.func 103) #[] #[], .func (.func 104) #[] #[]], born := 1 }] : Array MapEntry).toList 0 (by simp [MapKept.IsKey]) with ⟨h, _⟩ | ⟨j, e, _, hj, he⟩
  · exact h
  · have hm := List.mem_of_getElem? hj
    simp only [List.mem_cons, List.not_mem_nil, or_false] at hm
    rcases hm with rfl | rfl
    · exact absurd (by simpa using congrArg (fun v => match v with | Value.string s => s.data.toList | _ => []) he) h1.symm
    · exact absurd (by simpa using congrArg (fun v => match v with | Value.string s => s.data.toList | _ => []) he) h2.symm

set_option maxRecDepth 20000 in
set_option maxHeartbeats 1000000 in
theorem sealed_other (word : List UInt8) (e1 : word ≠ [115, 101, 97, 108]) (e2 : word ≠ [111, 112, 101, 110]) (e3 : word ≠ [109, 97, 99]) (n : Nat) (ss : List (List UInt8)) (hs : OverRow 100 (fun v => #[v]) ss (SPost (some n))) : AnyL 59 (fun v => #[S word, v]) ss := by
    have q : (word == [109, 97, 99]) = false := by rw [beq_eq_false_iff_ne]; exact e3
    have r2 := rule_ext
    have B := fun W : World => code_dfails3 W
    refine ⟨none, 3, by omega, by omega, fun t e => (nomatch e), fun w bk o cap hrow hc1 hc2 => ?_⟩
    have A1 := hs w bk o cap hrow hc1 hc2
    unfold SPost at A1
    clear hs hrow e3
    unfold TPost Thrown S at *
    go_enter Tryz.func59, Tryz.ntmps59
    go_wp2_with fail
    (with_reducible refine A1.mono ?_)
    rintro e x0 ⟨rfl, rfl⟩
    go_upto_region 2 with (fail)
    refine wp_region_lit ?_
    refine wpList_mkmap rfl _ rfl ?_
    refine Go.Great.wpList_readTo rfl _ rfl (.agg #[.func (.func 101) #[] #[], .func (.func 102) #[] #[]]) (by simp [execOp, Act.eval, Act.put, go_sem]) ?_
    refine wpList_put rfl _ _ _ _ _ _ rfl w.heap.size #[] 0 ⟨#[115, 101, 97, 108]⟩ (.agg #[.func (.func 101) #[] #[], .func (.func 102) #[] #[]]) rfl rfl rfl und_box und_str (World.alloc_heap_new _ _) rfl ?_
    refine Go.Great.wpList_readTo rfl _ rfl (.agg #[.func (.func 103) #[] #[], .func (.func 104) #[] #[]]) (by simp [execOp, Act.eval, Act.put, go_sem]) ?_
    refine wpList_put rfl _ _ _ _ _ _ rfl w.heap.size #[{ key := .string ⟨#[115, 101, 97, 108]⟩, val := .agg #[.func (.func 101) #[] #[], .func (.func 102) #[] #[]], born := 0 }] 1 ⟨#[111, 112, 101, 110]⟩ (.agg #[.func (.func 103) #[] #[], .func (.func 104) #[] #[]]) rfl rfl rfl und_box und_str (World.putObj_heap_same (alloc_lt _ _)) (by kernel_rfl) ?_
    refine wpList_world w w.heap.size ?_ (two_heap _ _ _ _) (two_grown _ _ _ _)
    intro x1 hM hgM
    simp only [Act.put, List.setIfInBounds_toArray, List.set_cons_succ, List.set_cons_zero, List.push_toArray, List.cons_append, List.nil_append] at hM ⊢
    have hlk := run_look _ _ _ _ _ _ ⟨word.toArray⟩ und_box und_str hM (none) (find_other word e1 e2) funZ (zero_box _)
    have hsn := fun (p : Addr) (m : Mode) (W : World) => run_store Tryz.prog W p .nilFunc m rfl
    unfold lookV funZ at hlk
    simp only at hlk
    clear hM
    have hgx1 := grow_alloc hgM (.cells #[.nilFunc, .nilFunc] 159)
    clear e1 e2
    go_wp2_with fail
    (with_reducible refine (B _).mono ?_)
    rintro e x2 ⟨rfl, hg2⟩
    exact ⟨rfl, rfl, grow_trans hgx1 hg2⟩

theorem any_dsealed (word : List UInt8) (ss : List (List UInt8)) (hb : ∀ s ∈ ss, s.length ≤ 2000) (hn : ss.length ≤ 1000) : AnyL 59 (fun v => #[S word, v]) ss := by
  obtain ⟨r, hr, hs⟩ := any_dsuite ss
  cases r with
  | none => exact sealed_none word ss hs
  | some n =>
    obtain ⟨h12, hl⟩ := hr n rfl
    cases ss with
    | nil => exact absurd hl (by simp)
    | cons h rest =>
      have hb2 : ∀ s ∈ rest, s.length ≤ 2000 := fun s hs => hb s (by simp [hs])
      have hn2 : rest.length ≤ 1000 := by simp at hn; omega
      by_cases e3 : word = [109, 97, 99]
      · subst e3; exact sealed_mac n h12 h rest hs hb2 hn2
      by_cases e1 : word = [115, 101, 97, 108]
      · subst e1
        rcases h12 with rfl | rfl
        · exact sealed_seal1 h rest hs hb2 hn2 fun a b c d _ _ hc hd => any_seal a b c d hc hd
        · exact sealed_seal2 h rest hs hb2 hn2 fun a b c d _ _ hc hd => any_gseal a b c d hc hd
      by_cases e2 : word = [111, 112, 101, 110]
      · subst e2
        rcases h12 with rfl | rfl
        · exact sealed_open1 h rest hs hb2 hn2 fun a b c d _ _ hc hd => any_open a b c d hc hd
        · exact sealed_open2 h rest hs hb2 hn2 fun a b c d _ _ hc hd => any_gopen a b c d hc hd
      exact sealed_other word e1 e2 e3 n _ hs

end Go.Proofs.YtmomfbkpniblgaaGreatDoor

namespace Go.Proofs.YtmomfbkpniblgaaGreatDoor
open Go.RowKit
set_option linter.unusedVariables false


set_option maxRecDepth 20000 in
set_option maxHeartbeats 1000000 in
theorem answered_add (ss : List (List UInt8)) (hb : ∀ s ∈ ss, s.length ≤ 2000) (hn : ss.length ≤ 1000) : AnyL 35 (fun v => #[S [97, 100, 100], v]) ss := by
    obtain ⟨r, m, m1, m2, hr, C⟩ := any_two 51 ss hb hn (fun x y W => by kernel_rfl) (fun a b ha hb => any_add a b)
    refine ⟨r, m, m1, m2, hr, fun w bk o cap hrow hc1 hc2 => ?_⟩
    have A1 : Calls Tryz.prog 50 #[.slice (some ⟨bk, o, none⟩) ss.length cap, .func (.func 51) #[] #[]] w (TPost r m w) := C w bk o cap hrow hc1 hc2
    clear C hr hb hrow
    unfold S at A1 ⊢
    go_enter Tryz.func35, Tryz.ntmps35
    go_wp2_with fail
    (with_reducible refine A1.mono ?_)
    intro e y hy
    cases r with
    | some t =>
      obtain ⟨rfl, hg2⟩ := hy
      unfold S
      go_wp2_with fail
      go_ret
      exact ⟨rfl, hg2⟩
    | none =>
      obtain ⟨rfl, hg2⟩ := hy
      exact ⟨rfl, rfl, hg2⟩

set_option maxRecDepth 20000 in
set_option maxHeartbeats 1000000 in
theorem answered_mul (ss : List (List UInt8)) (hb : ∀ s ∈ ss, s.length ≤ 2000) (hn : ss.length ≤ 1000) : AnyL 35 (fun v => #[S [109, 117, 108], v]) ss := by
    obtain ⟨r, m, m1, m2, hr, C⟩ := any_two 52 ss hb hn (fun x y W => by kernel_rfl) (fun a b ha hb => any_mul a b)
    refine ⟨r, m, m1, m2, hr, fun w bk o cap hrow hc1 hc2 => ?_⟩
    have A1 : Calls Tryz.prog 50 #[.slice (some ⟨bk, o, none⟩) ss.length cap, .func (.func 52) #[] #[]] w (TPost r m w) := C w bk o cap hrow hc1 hc2
    clear C hr hb hrow
    unfold S at A1 ⊢
    go_enter Tryz.func35, Tryz.ntmps35
    go_wp2_with fail
    (with_reducible refine A1.mono ?_)
    intro e y hy
    cases r with
    | some t =>
      obtain ⟨rfl, hg2⟩ := hy
      unfold S
      go_wp2_with fail
      go_ret
      exact ⟨rfl, hg2⟩
    | none =>
      obtain ⟨rfl, hg2⟩ := hy
      exact ⟨rfl, rfl, hg2⟩

set_option maxRecDepth 20000 in
set_option maxHeartbeats 1000000 in
theorem answered_share (ss : List (List UInt8)) (hb : ∀ s ∈ ss, s.length ≤ 2000) (hn : ss.length ≤ 1000) : AnyL 35 (fun v => #[S [115, 104, 97, 114, 101], v]) ss := by
    obtain ⟨r, m, m1, m2, hr, C⟩ := any_two 54 ss hb hn (fun x y W => by kernel_rfl) (fun a b ha hb => any_share a b)
    refine ⟨r, m, m1, m2, hr, fun w bk o cap hrow hc1 hc2 => ?_⟩
    have A1 : Calls Tryz.prog 50 #[.slice (some ⟨bk, o, none⟩) ss.length cap, .func (.func 54) #[] #[]] w (TPost r m w) := C w bk o cap hrow hc1 hc2
    clear C hr hb hrow
    unfold S at A1 ⊢
    go_enter Tryz.func35, Tryz.ntmps35
    go_wp2_with fail
    (with_reducible refine A1.mono ?_)
    intro e y hy
    cases r with
    | some t =>
      obtain ⟨rfl, hg2⟩ := hy
      unfold S
      go_wp2_with fail
      go_ret
      exact ⟨rfl, hg2⟩
    | none =>
      obtain ⟨rfl, hg2⟩ := hy
      exact ⟨rfl, rfl, hg2⟩

set_option maxRecDepth 20000 in
set_option maxHeartbeats 1000000 in
theorem answered_tag (ss : List (List UInt8)) (hb : ∀ s ∈ ss, s.length ≤ 2000) (hn : ss.length ≤ 1000) : AnyL 35 (fun v => #[S [116, 97, 103], v]) ss := by
    obtain ⟨r, m, m1, m2, hr, C⟩ := any_two 56 ss hb hn (fun x y W => by kernel_rfl) (fun a b ha hb => any_tag a b (by omega))
    refine ⟨r, m, m1, m2, hr, fun w bk o cap hrow hc1 hc2 => ?_⟩
    have A1 : Calls Tryz.prog 50 #[.slice (some ⟨bk, o, none⟩) ss.length cap, .func (.func 56) #[] #[]] w (TPost r m w) := C w bk o cap hrow hc1 hc2
    clear C hr hb hrow
    unfold S at A1 ⊢
    go_enter Tryz.func35, Tryz.ntmps35
    go_wp2_with fail
    (with_reducible refine A1.mono ?_)
    intro e y hy
    cases r with
    | some t =>
      obtain ⟨rfl, hg2⟩ := hy
      unfold S
      go_wp2_with fail
      go_ret
      exact ⟨rfl, hg2⟩
    | none =>
      obtain ⟨rfl, hg2⟩ := hy
      exact ⟨rfl, rfl, hg2⟩

set_option maxRecDepth 20000 in
set_option maxHeartbeats 1000000 in
theorem answered_aes (ss : List (List UInt8)) (hb : ∀ s ∈ ss, s.length ≤ 2000) (hn : ss.length ≤ 1000) : AnyL 35 (fun v => #[S [97, 101, 115], v]) ss := by
    obtain ⟨r, m, m1, m2, hr, C⟩ := any_two 57 ss hb hn (fun x y W => by kernel_rfl) (fun a b ha hb => any_aenc a b)
    refine ⟨r, m, m1, m2, hr, fun w bk o cap hrow hc1 hc2 => ?_⟩
    have A1 : Calls Tryz.prog 50 #[.slice (some ⟨bk, o, none⟩) ss.length cap, .func (.func 57) #[] #[]] w (TPost r m w) := C w bk o cap hrow hc1 hc2
    clear C hr hb hrow
    unfold S at A1 ⊢
    go_enter Tryz.func35, Tryz.ntmps35
    go_wp2_with fail
    (with_reducible refine A1.mono ?_)
    intro e y hy
    cases r with
    | some t =>
      obtain ⟨rfl, hg2⟩ := hy
      unfold S
      go_wp2_with fail
      go_ret
      exact ⟨rfl, hg2⟩
    | none =>
      obtain ⟨rfl, hg2⟩ := hy
      exact ⟨rfl, rfl, hg2⟩

set_option maxRecDepth 20000 in
set_option maxHeartbeats 1000000 in
theorem answered_unaes (ss : List (List UInt8)) (hb : ∀ s ∈ ss, s.length ≤ 2000) (hn : ss.length ≤ 1000) : AnyL 35 (fun v => #[S [117, 110, 97, 101, 115], v]) ss := by
    obtain ⟨r, m, m1, m2, hr, C⟩ := any_two 58 ss hb hn (fun x y W => by kernel_rfl) (fun a b ha hb => any_adec a b)
    refine ⟨r, m, m1, m2, hr, fun w bk o cap hrow hc1 hc2 => ?_⟩
    have A1 : Calls Tryz.prog 50 #[.slice (some ⟨bk, o, none⟩) ss.length cap, .func (.func 58) #[] #[]] w (TPost r m w) := C w bk o cap hrow hc1 hc2
    clear C hr hb hrow
    unfold S at A1 ⊢
    go_enter Tryz.func35, Tryz.ntmps35
    go_wp2_with fail
    (with_reducible refine A1.mono ?_)
    intro e y hy
    cases r with
    | some t =>
      obtain ⟨rfl, hg2⟩ := hy
      unfold S
      go_wp2_with fail
      go_ret
      exact ⟨rfl, hg2⟩
    | none =>
      obtain ⟨rfl, hg2⟩ := hy
      exact ⟨rfl, rfl, hg2⟩

set_option maxRecDepth 20000 in
set_option maxHeartbeats 1000000 in
theorem answered_sha (ss : List (List UInt8)) (hb : ∀ s ∈ ss, s.length ≤ 2000) (hn : ss.length ≤ 1000) : AnyL 35 (fun v => #[S [115, 104, 97], v]) ss := by
    obtain ⟨r, m, m1, m2, hr, C⟩ := any_dsum 2 (by omega) ss hb hn
    refine ⟨r, m, m1, m2, hr, fun w bk o cap hrow hc1 hc2 => ?_⟩
    have A1 : Calls Tryz.prog 55 #[.int .i64 2, .slice (some ⟨bk, o, none⟩) ss.length cap] w (TPost r m w) := C w bk o cap hrow hc1 hc2
    clear C hr hb hrow
    unfold S
    go_enter Tryz.func35, Tryz.ntmps35
    go_wp2_with fail
    (with_reducible refine A1.mono ?_)
    intro e y hy
    cases r with
    | some t =>
      obtain ⟨rfl, hg2⟩ := hy
      unfold S
      go_wp2_with fail
      go_ret
      exact ⟨rfl, hg2⟩
    | none =>
      obtain ⟨rfl, hg2⟩ := hy
      exact ⟨rfl, rfl, hg2⟩

set_option maxRecDepth 20000 in
set_option maxHeartbeats 1000000 in
theorem answered_blake (ss : List (List UInt8)) (hb : ∀ s ∈ ss, s.length ≤ 2000) (hn : ss.length ≤ 1000) : AnyL 35 (fun v => #[S [98, 108, 97, 107, 101], v]) ss := by
    obtain ⟨r, m, m1, m2, hr, C⟩ := any_dsum 1 (by omega) ss hb hn
    refine ⟨r, m, m1, m2, hr, fun w bk o cap hrow hc1 hc2 => ?_⟩
    have A1 : Calls Tryz.prog 55 #[.int .i64 1, .slice (some ⟨bk, o, none⟩) ss.length cap] w (TPost r m w) := C w bk o cap hrow hc1 hc2
    clear C hr hb hrow
    unfold S
    go_enter Tryz.func35, Tryz.ntmps35
    go_wp2_with fail
    (with_reducible refine A1.mono ?_)
    intro e y hy
    cases r with
    | some t =>
      obtain ⟨rfl, hg2⟩ := hy
      unfold S
      go_wp2_with fail
      go_ret
      exact ⟨rfl, hg2⟩
    | none =>
      obtain ⟨rfl, hg2⟩ := hy
      exact ⟨rfl, rfl, hg2⟩

set_option maxRecDepth 20000 in
set_option maxHeartbeats 1000000 in
theorem answered_inv (ss : List (List UInt8)) (hb : ∀ s ∈ ss, s.length ≤ 2000) (hn : ss.length ≤ 1000) : AnyL 35 (fun v => #[S [105, 110, 118], v]) ss := by
  rcases any_texts ss 1 (by omega) hb hn with ⟨ts, hl, hbt, -, C⟩ | ⟨m, h1, h2, C⟩
  · obtain ⟨a, rfl⟩ : ∃ a, ts = [a] := by
      match ts, hl with
      | [a], _ => exact ⟨a, rfl⟩
    obtain ⟨s, q, hs1, hq15, A⟩ := any_inv a
    obtain ⟨r, m, m1, m2, hr, D⟩ := told_form s hs1 q hq15
    clear hs1 hq15
    refine ⟨r, m, m1, m2, hr, fun w bk o cap hrow hc1 hc2 => ?_⟩
    have A1 : Calls Tryz.prog 47 #[.slice (some ⟨bk, o, none⟩) ss.length cap, .int .i64 1] w (RowIs [a] w) := C w bk o cap hrow hc1 hc2
    unfold RowIs at A1
    clear hb hbt C hrow hl hr
    unfold S at A D ⊢
    go_enter Tryz.func35, Tryz.ntmps35
    go_wp2_with fail
    (with_reducible refine A1.mono ?_)
    rintro e x0 ⟨v, rfl, hrx, hg0⟩
    obtain ⟨g, cp, rfl, _, _, hcp, hcm, hcell⟩ := srow_cells hrx (by simp)
    have c0 : x0.cell? ⟨g, 0, none⟩ = some (.string ⟨a.toArray⟩) := hcell 0 (by simp)
    clear hcell hrx A1
    go_wp2_with fail
    (with_reducible refine (A _).mono ?_)
    rintro e x1 ⟨rfl, hg1⟩
    have hgx := grow_trans hg0 hg1
    go_wp2_with fail
    (with_reducible refine (D _).mono ?_)
    intro e y hy
    cases r with
    | some t =>
      obtain ⟨rfl, hg2⟩ := hy
      unfold S
      go_wp2_with fail
      go_ret
      exact ⟨rfl, grow_trans hgx hg2⟩
    | none =>
      obtain ⟨rfl, hg2⟩ := hy
      exact ⟨rfl, rfl, grow_trans hgx hg2⟩
  · refine ⟨none, m, h1, h2, fun t e => (nomatch e), fun w bk o cap hrow hc1 hc2 => ?_⟩
    have A1 : Calls Tryz.prog 47 #[.slice (some ⟨bk, o, none⟩) ss.length cap, .int .i64 1] w (Thrown m w) := C w bk o cap hrow hc1 hc2
    unfold TPost Thrown S at *
    clear hb C hrow
    go_enter Tryz.func35, Tryz.ntmps35
    go_wp2_with fail
    (with_reducible refine A1.mono ?_)
    rintro e x0 ⟨rfl, hg0⟩
    exact ⟨rfl, rfl, hg0⟩

set_option maxRecDepth 20000 in
set_option maxHeartbeats 1000000 in
theorem answered_public (ss : List (List UInt8)) (hb : ∀ s ∈ ss, s.length ≤ 2000) (hn : ss.length ≤ 1000) : AnyL 35 (fun v => #[S [112, 117, 98, 108, 105, 99], v]) ss := by
  rcases any_texts ss 1 (by omega) hb hn with ⟨ts, hl, hbt, -, C⟩ | ⟨m, h1, h2, C⟩
  · obtain ⟨a, rfl⟩ : ∃ a, ts = [a] := by
      match ts, hl with
      | [a], _ => exact ⟨a, rfl⟩
    obtain ⟨s, q, hs1, hq15, A⟩ := any_public a
    obtain ⟨r, m, m1, m2, hr, D⟩ := told_form s hs1 q hq15
    clear hs1 hq15
    refine ⟨r, m, m1, m2, hr, fun w bk o cap hrow hc1 hc2 => ?_⟩
    have A1 : Calls Tryz.prog 47 #[.slice (some ⟨bk, o, none⟩) ss.length cap, .int .i64 1] w (RowIs [a] w) := C w bk o cap hrow hc1 hc2
    unfold RowIs at A1
    clear hb hbt C hrow hl hr
    unfold S at A D ⊢
    go_enter Tryz.func35, Tryz.ntmps35
    go_wp2_with fail
    (with_reducible refine A1.mono ?_)
    rintro e x0 ⟨v, rfl, hrx, hg0⟩
    obtain ⟨g, cp, rfl, _, _, hcp, hcm, hcell⟩ := srow_cells hrx (by simp)
    have c0 : x0.cell? ⟨g, 0, none⟩ = some (.string ⟨a.toArray⟩) := hcell 0 (by simp)
    clear hcell hrx A1
    go_wp2_with fail
    (with_reducible refine (A _).mono ?_)
    rintro e x1 ⟨rfl, hg1⟩
    have hgx := grow_trans hg0 hg1
    go_wp2_with fail
    (with_reducible refine (D _).mono ?_)
    intro e y hy
    cases r with
    | some t =>
      obtain ⟨rfl, hg2⟩ := hy
      unfold S
      go_wp2_with fail
      go_ret
      exact ⟨rfl, grow_trans hgx hg2⟩
    | none =>
      obtain ⟨rfl, hg2⟩ := hy
      exact ⟨rfl, rfl, grow_trans hgx hg2⟩
  · refine ⟨none, m, h1, h2, fun t e => (nomatch e), fun w bk o cap hrow hc1 hc2 => ?_⟩
    have A1 : Calls Tryz.prog 47 #[.slice (some ⟨bk, o, none⟩) ss.length cap, .int .i64 1] w (Thrown m w) := C w bk o cap hrow hc1 hc2
    unfold TPost Thrown S at *
    clear hb C hrow
    go_enter Tryz.func35, Tryz.ntmps35
    go_wp2_with fail
    (with_reducible refine A1.mono ?_)
    rintro e x0 ⟨rfl, hg0⟩
    exact ⟨rfl, rfl, hg0⟩

set_option maxRecDepth 20000 in
set_option maxHeartbeats 1000000 in
theorem answered_base (ss : List (List UInt8)) (hb : ∀ s ∈ ss, s.length ≤ 2000) (hn : ss.length ≤ 1000) : AnyL 35 (fun v => #[S [98, 97, 115, 101], v]) ss := by
  rcases any_texts ss 1 (by omega) hb hn with ⟨ts, hl, hbt, -, C⟩ | ⟨m, h1, h2, C⟩
  · obtain ⟨a, rfl⟩ : ∃ a, ts = [a] := by
      match ts, hl with
      | [a], _ => exact ⟨a, rfl⟩
    have A := fun W : World => code_base W a (by have := hbt a (by simp); omega)
    obtain ⟨r, m, m1, m2, hr, hbr⟩ : ∃ (r : Option (List UInt8)) (m : Nat), 1 ≤ m ∧ m ≤ 15 ∧ (∀ t, r = some t → t.length ≤ 200000) ∧ r = some (baseL a) := ⟨some (baseL a), 1, by omega, by omega, fun t e => by cases e; have := hbt a (by simp); have := baseL_length a; omega, rfl⟩
    generalize baseL a = s at *
    subst hbr
    refine ⟨_, m, m1, m2, hr, fun w bk o cap hrow hc1 hc2 => ?_⟩
    have A1 : Calls Tryz.prog 47 #[.slice (some ⟨bk, o, none⟩) ss.length cap, .int .i64 1] w (RowIs [a] w) := C w bk o cap hrow hc1 hc2
    unfold RowIs at A1
    clear hb hbt C hrow hl hr
    unfold S at A ⊢
    go_enter Tryz.func35, Tryz.ntmps35
    go_wp2_with fail
    (with_reducible refine A1.mono ?_)
    rintro e x0 ⟨v, rfl, hrx, hg0⟩
    obtain ⟨g, cp, rfl, _, _, hcp, hcm, hcell⟩ := srow_cells hrx (by simp)
    have c0 : x0.cell? ⟨g, 0, none⟩ = some (.string ⟨a.toArray⟩) := hcell 0 (by simp)
    clear hcell hrx A1
    go_wp2_with fail
    (with_reducible refine (A _).mono ?_)
    rintro e x1 ⟨rfl, hg1⟩
    go_wp2_with fail
    go_ret
    exact ⟨rfl, grow_trans hg0 hg1⟩
  · refine ⟨none, m, h1, h2, fun t e => (nomatch e), fun w bk o cap hrow hc1 hc2 => ?_⟩
    have A1 : Calls Tryz.prog 47 #[.slice (some ⟨bk, o, none⟩) ss.length cap, .int .i64 1] w (Thrown m w) := C w bk o cap hrow hc1 hc2
    unfold TPost Thrown S at *
    clear hb C hrow
    go_enter Tryz.func35, Tryz.ntmps35
    go_wp2_with fail
    (with_reducible refine A1.mono ?_)
    rintro e x0 ⟨rfl, hg0⟩
    exact ⟨rfl, rfl, hg0⟩

set_option maxRecDepth 20000 in
set_option maxHeartbeats 1000000 in
theorem answered_unbase (ss : List (List UInt8)) (hb : ∀ s ∈ ss, s.length ≤ 2000) (hn : ss.length ≤ 1000) : AnyL 35 (fun v => #[S [117, 110, 98, 97, 115, 101], v]) ss := by
  by_cases hl : ss.length = 1
  · obtain ⟨a, rfl⟩ : ∃ a, ss = [a] := by
      match ss, hl with
      | [a], _ => exact ⟨a, rfl⟩
    obtain ⟨s, q, hs1, hq15, A⟩ := any_unbase a (by have := hb a (by simp); omega)
    obtain ⟨r, m, m1, m2, hr, D⟩ := told_form s hs1 q hq15
    refine ⟨r, m, m1, m2, hr, fun w bk o cap hrow hc1 hc2 => ?_⟩
    have c0 : w.cell? ⟨bk, o, none⟩ = some (.string ⟨a.toArray⟩) := hrow 0 (by simp)
    clear hb hrow hl hr hs1 hq15
    simp only [List.length_cons, List.length_nil, Nat.zero_add] at *
    unfold S at A D ⊢
    go_enter Tryz.func35, Tryz.ntmps35
    go_wp2_with fail
    (with_reducible refine (A _).mono ?_)
    rintro e x1 ⟨rfl, hgx⟩
    go_wp2_with fail
    (with_reducible refine (D _).mono ?_)
    intro e y hy
    cases r with
    | some t =>
      obtain ⟨rfl, hg2⟩ := hy
      unfold S
      go_wp2_with fail
      go_ret
      exact ⟨rfl, grow_trans hgx hg2⟩
    | none =>
      obtain ⟨rfl, hg2⟩ := hy
      exact ⟨rfl, rfl, grow_trans hgx hg2⟩
  · refine ⟨none, 3, by omega, by omega, fun t e => (nomatch e), fun w bk o cap hrow hc1 hc2 => ?_⟩
    have q : ((ss.length : Int) != 1) = true := by rw [bne_iff_ne]; omega
    have Bd := fun W : World => code_dfails3 W
    unfold TPost Thrown S at *
    clear hb hrow hl
    go_enter Tryz.func35, Tryz.ntmps35
    go_wp2_with fail
    (with_reducible refine (Bd _).mono ?_)
    rintro e x0 ⟨rfl, hg0⟩
    exact ⟨rfl, rfl, hg0⟩

set_option maxRecDepth 20000 in
set_option maxHeartbeats 1000000 in
theorem answered_else (word : List UInt8) (ss : List (List UInt8)) (hb : ∀ s ∈ ss, s.length ≤ 2000) (hn : ss.length ≤ 1000) (n0 : word ≠ [98, 97, 115, 101]) (n1 : word ≠ [117, 110, 98, 97, 115, 101]) (n2 : word ≠ [97, 100, 100]) (n3 : word ≠ [109, 117, 108]) (n4 : word ≠ [105, 110, 118]) (n5 : word ≠ [112, 117, 98, 108, 105, 99]) (n6 : word ≠ [115, 104, 97, 114, 101]) (n7 : word ≠ [115, 104, 97]) (n8 : word ≠ [98, 108, 97, 107, 101]) (n9 : word ≠ [116, 97, 103]) (n10 : word ≠ [97, 101, 115]) (n11 : word ≠ [117, 110, 97, 101, 115]) : AnyL 35 (fun v => #[S word, v]) ss := by
    have q0 : (word == [98, 97, 115, 101]) = false := by rw [beq_eq_false_iff_ne]; exact n0
    have q1 : (word == [117, 110, 98, 97, 115, 101]) = false := by rw [beq_eq_false_iff_ne]; exact n1
    have q2 : (word == [97, 100, 100]) = false := by rw [beq_eq_false_iff_ne]; exact n2
    have q3 : (word == [109, 117, 108]) = false := by rw [beq_eq_false_iff_ne]; exact n3
    have q4 : (word == [105, 110, 118]) = false := by rw [beq_eq_false_iff_ne]; exact n4
    have q5 : (word == [112, 117, 98, 108, 105, 99]) = false := by rw [beq_eq_false_iff_ne]; exact n5
    have q6 : (word == [115, 104, 97, 114, 101]) = false := by rw [beq_eq_false_iff_ne]; exact n6
    have q7 : (word == [115, 104, 97]) = false := by rw [beq_eq_false_iff_ne]; exact n7
    have q8 : (word == [98, 108, 97, 107, 101]) = false := by rw [beq_eq_false_iff_ne]; exact n8
    have q9 : (word == [116, 97, 103]) = false := by rw [beq_eq_false_iff_ne]; exact n9
    have q10 : (word == [97, 101, 115]) = false := by rw [beq_eq_false_iff_ne]; exact n10
    have q11 : (word == [117, 110, 97, 101, 115]) = false := by rw [beq_eq_false_iff_ne]; exact n11
    obtain ⟨r, m, m1, m2, hr, C⟩ := any_dsealed word ss hb hn
    refine ⟨r, m, m1, m2, hr, fun w bk o cap hrow hc1 hc2 => ?_⟩
    have A1 : Calls Tryz.prog 59 #[S word, .slice (some ⟨bk, o, none⟩) ss.length cap] w (TPost r m w) := C w bk o cap hrow hc1 hc2
    have r2 := rule_ext
    clear C hr hb hrow n0 n1 n2 n3 n4 n5 n6 n7 n8 n9 n10 n11
    unfold S at A1 ⊢
    go_enter Tryz.func35, Tryz.ntmps35
    go_wp2_with fail
    (with_reducible refine A1.mono ?_)
    intro e y hy
    cases r with
    | some t =>
      obtain ⟨rfl, hg2⟩ := hy
      unfold S
      go_wp2_with fail
      go_ret
      exact ⟨rfl, hg2⟩
    | none =>
      obtain ⟨rfl, hg2⟩ := hy
      exact ⟨rfl, rfl, hg2⟩

theorem any_danswered (word : List UInt8) (ss : List (List UInt8)) (hb : ∀ s ∈ ss, s.length ≤ 2000) (hn : ss.length ≤ 1000) : AnyL 35 (fun v => #[S word, v]) ss := by
  by_cases n0 : word = [98, 97, 115, 101]
  · subst n0; exact answered_base ss hb hn
  by_cases n1 : word = [117, 110, 98, 97, 115, 101]
  · subst n1; exact answered_unbase ss hb hn
  by_cases n2 : word = [97, 100, 100]
  · subst n2; exact answered_add ss hb hn
  by_cases n3 : word = [109, 117, 108]
  · subst n3; exact answered_mul ss hb hn
  by_cases n4 : word = [105, 110, 118]
  · subst n4; exact answered_inv ss hb hn
  by_cases n5 : word = [112, 117, 98, 108, 105, 99]
  · subst n5; exact answered_public ss hb hn
  by_cases n6 : word = [115, 104, 97, 114, 101]
  · subst n6; exact answered_share ss hb hn
  by_cases n7 : word = [115, 104, 97]
  · subst n7; exact answered_sha ss hb hn
  by_cases n8 : word = [98, 108, 97, 107, 101]
  · subst n8; exact answered_blake ss hb hn
  by_cases n9 : word = [116, 97, 103]
  · subst n9; exact answered_tag ss hb hn
  by_cases n10 : word = [97, 101, 115]
  · subst n10; exact answered_aes ss hb hn
  by_cases n11 : word = [117, 110, 97, 101, 115]
  · subst n11; exact answered_unaes ss hb hn
  exact answered_else word ss hb hn n0 n1 n2 n3 n4 n5 n6 n7 n8 n9 n10 n11

end Go.Proofs.YtmomfbkpniblgaaGreatDoor
