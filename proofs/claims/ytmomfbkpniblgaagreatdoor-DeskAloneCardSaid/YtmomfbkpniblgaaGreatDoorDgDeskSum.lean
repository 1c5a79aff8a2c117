/- The desk: a sum. -/
import Derived.Test.YtmomfbkpniblgaaGreatDoorDg09
import Derived.Test.YtmomfbkpniblgaaGreatDoorDgKdfSum
namespace Go.Proofs.YtmomfbkpniblgaaGreatDoor
open Go.RowKit
set_option linter.unusedVariables false

theorem any_dsum (su : Nat) (h12 : su = 1 ∨ su = 2) (ss : List (List UInt8)) (hb : ∀ s ∈ ss, s.length ≤ 2000) (hn : ss.length ≤ 1000) : AnyL 55 (fun v => #[.int .i64 (su : Int), v]) ss := by
  rcases any_texts ss 1 (by omega) hb hn with ⟨ts, hl, hbt, -, C⟩ | ⟨n, h1, h2, C⟩
  · obtain ⟨a, rfl⟩ : ∃ a, ts = [a] := by
      match ts, hl with
      | [a], _ => exact ⟨a, rfl⟩
    have A := fun W : World => code_ksum W su h12 a (by have := hbt a (by simp); omega)
    obtain ⟨r, m, m1, m2, hr, D⟩ := told_form (hashM su a) (by rw [hashM_length]; omega) 0 (by omega)
    generalize hashM su a = s at *
    refine ⟨r, m, m1, m2, hr, fun w bk o cap hrow hc1 hc2 => ?_⟩
    have A1 : Calls Tryz.prog 47 #[.slice (some ⟨bk, o, none⟩) ss.length cap, .int .i64 1] w (RowIs [a] w) := C w bk o cap hrow hc1 hc2
    generalize ss.length = K at *
    have D0 : ∀ W : World, Calls Tryz.prog 48 #[S s, .int .i64 0] W (TPost r m W) := D
    unfold RowIs at A1
    clear hb hbt C hrow hl hr D
    unfold S at A D0
    go_enter Tryz.func55, Tryz.ntmps55
    go_wp2_with fail
    (with_reducible refine A1.mono ?_)
    rintro e x0 ⟨v, rfl, hrx, hg0⟩
    obtain ⟨g, cp, rfl, _, _, hcp, hcm, hcell⟩ := srow_cells hrx (by simp)
    have c0 : x0.cell? ⟨g, 0, none⟩ = some (.string ⟨a.toArray⟩) := hcell 0 (by simp)
    clear hcell hrx A1
    go_wp2_with fail
    (with_reducible refine (A _).mono ?_)
    rintro e x1 ⟨rfl, hg1⟩
    have hgx := grow_trans hg0 hg1
    go_wp2_with fail
    (with_reducible refine (D0 _).mono ?_)
    intro e y hy
    cases r with
    | some t =>
      obtain ⟨rfl, hg2⟩ := hy
      unfold S
      go_wp2_with fail
      go_ret
      exact ⟨rfl, grow_trans hgx hg2⟩
    | none =>
      obtain ⟨rfl, hg2⟩ := hy
      exact ⟨rfl, rfl, grow_trans hgx hg2⟩
  · refine ⟨none, n, h1, h2, fun t e => (nomatch e), fun w bk o cap hrow hc1 hc2 => ?_⟩
    have A1 : Calls Tryz.prog 47 #[.slice (some ⟨bk, o, none⟩) ss.length cap, .int .i64 1] w (Thrown n w) := C w bk o cap hrow hc1 hc2
    unfold TPost Thrown at *
    clear hb C hrow
    go_enter Tryz.func55, Tryz.ntmps55
    go_wp2_with fail
    (with_reducible refine A1.mono ?_)
    rintro e x0 ⟨rfl, hg0⟩
    exact ⟨rfl, rfl, hg0⟩

end Go.Proofs.YtmomfbkpniblgaaGreatDoor
