/- The bucket: contracts. -/
import Derived.Test.YtcimcagplodpeaaMapView
import Derived.Test.YtcimcagplodpeaaMapStore
import Derived.Test.YtcimcagplodpeaaGrow
import Derived.WalkKit
import Derived.Laws.IdiomRangeMap
import Derived.Deep.LoopGhost
namespace Go.Proofs.Ytcimcagplodpeaa
open Go.RowKit Go.Maps
set_option linter.unusedVariables false

theorem lawK : Keyed Try.prog 49 := int_keyed Try.underlying49
def pd5 : Lit → Dm → Bool := fun _ d => match d with
  | .lit (.int _ c) => decide (5 ≤ c)
  | _ => false

theorem pd5_nm (l : Lit) (c : Int) : pd5 l (nm c) = decide (5 ≤ c) := rfl

abbrev bmap (w : World) (b n : Nat) (D : Dm) : Prop := w.ownsMap Try.prog 49 (plainElem Try.prog 3) b n D

theorem del_pred (w : World) (key : Value) (c : Int) : Calls Try.prog 37 #[key, .int .i64 c] w fun e w' => e = .returned (.bool (decide (5 ≤ c))) ∧ w = w' := by
  go_enter Try.func37, Try.ntmps37
  go_wp2
  go_ret
  exact ⟨rfl, rfl⟩

set_option maxHeartbeats 4000000 in
theorem maps_del (w : World) (b n : Nat) (D : Dm) (hown : bmap w b n D) :
    Calls Try.prog 36 #[.map (some b), .func (.func 37) #[] #[]] w fun e w' => e = .returned (.tuple #[]) ∧ bmap w' b n (Lib.deleteFuncD pd5 D) ∧ w.grownBy w' (some b) := by
  obtain ⟨es0, rfl, hap, hkeys⟩ := hown.entries lawK
  go_enter Try.func36, Try.ntmps36
  go_wp2_with (first
    | (at_range; refine wpList_range_own _ rfl _ 74 rfl 49 3 lawK Try.underlying74 _ b n _ rfl hown ?_; intro w0 hrg0 hg0 hs0)
    | go_in)
  go_frame
  go_loopw [8] (fun _ wr => ∃ (left : Lit → Bool) (cnt : Nat), wr.ranges Try.prog 49 (plainElem Try.prog 3) b w.heap.size n (Fk pd5 es0 left) left cnt ∧ w.grownBy wr (some b))
    (fun _ wr => wr.rangeLeft b w.heap.size)
  case atStart => exact ⟨_, _, by rw [Fk_start hkeys]; exact hrg0, hg0.but _⟩
  case round =>
    obtain ⟨left, cnt, hrg, hgw⟩ := hrel
    go_wp2_with (first
      | (at_next; refine wpList_next_ranges_ii _ rfl _ rfl 49 3 .u32 .i64 lawK Try.underlying49 Try.underlying3 b w.heap.size n _ _ _ rfl hrg ?_ ?_)
      | go_in)
    · intro _ hl0
      go_wp2
      go_end0
      exact ⟨rfl, by rw [← Fk_end hl0]; exact hrg.owns, hgw⟩
    · intro x c w1 cnt1 hwx hwc hlx hat hrg1 hlt hg1 hs1 hen
      have hgw1 := hgw.andThen hg1 (fun j hj => by cases hj; exact Or.inl (Nat.le_refl _))
      have hbl := hrg1.owns.lt
      have hrl := hrg1.lt
      have hkey := keyOf_int_mk Try.underlying49 hwx
      by_cases hp : 5 ≤ c
      · go_wp2_with (first
          | (go_at_call 37; refine (del_pred _ _ _).mono ?_; rintro e w2 ⟨rfl, rfl⟩)
          | (at_delete; refine wpList_delete_ranges _ rfl _ _ 74 49 rfl 3 lawK Try.underlying74 _ b w.heap.size n _ _ _ rfl hrg1 _ _ rfl hkey ?_; intro w3 cnt3 hrg3 hle hturn; go_frame)
          | go_in)
        rw [strike_twice] at hrg3
        go_roundw
        case rel => exact ⟨_, cnt3, by rw [← Fk_struck hap (lawK.key hkey) hlx (by simp [pd5, hp]) hat]; exact hrg3, hgw1.andThen hturn.grown (fun j hj => by cases hj; exact Or.inr rfl)⟩
        case measure => rw [hrg3.left_eq, hrg.left_eq]; omega
      · go_wp2_with (first
          | (go_at_call 37; refine (del_pred _ _ _).mono ?_; rintro e w2 ⟨rfl, rfl⟩)
          | go_in)
        go_roundw
        case rel => exact ⟨_, cnt1, by rw [← Fk_stays hap (lawK.key hkey) hlx (by simp [pd5, hp]) hat]; exact hrg1, hgw1⟩
        case measure => rw [hrg1.left_eq, hrg.left_eq]; exact hlt

end Go.Proofs.Ytcimcagplodpeaa
