/- A region that draws its order, by an invariant of what is done. -/
import Derived.Test.YtbkgfpebffmffaaBase
import Derived.Orders
namespace Go.Proofs.Ytbkgfpebffmffaa
open Go.RowKit
set_option linter.unusedVariables false

/-- Each operation waits for earlier ones alone. -/
def earlierB (md : Region.Mode) (ops : Array Oper) : Bool :=
  (List.range ops.size).all fun i => ((ops[i]?).map fun o => o.after.all fun e => !Region.binds md e || decide (e.on < i)).getD true

theorem earlierB_spec {md : Region.Mode} {ops : Array Oper} (h : earlierB md ops = true) {i : Nat} {o : Oper} (ho : ops[i]? = some o) (e : Edge) (he : e ∈ o.after) (hb : Region.binds md e = true) : e.on < i := by
  unfold earlierB at h
  have hi : i < ops.size := (Array.getElem?_eq_some_iff.1 ho).1
  have h1 := List.all_eq_true.1 h i (List.mem_range.2 hi)
  rw [ho] at h1
  simp only [Option.map_some, Option.getD_some] at h1
  have h2 := Array.all_eq_true_iff_forall_mem.1 h1 e he
  simpa [hb] using h2

theorem all_listed {md : Region.Mode} {ops : Array Oper} {listed : Array Bool} (he : earlierB md ops = true) (hs : listed.size = ops.size) (hr : Region.ready md ops listed = []) : ∀ i, i < ops.size → listed.getD i false = true := by
  intro i
  induction i using Nat.strongRecOn with
  | _ i ih =>
    intro hi
    rcases hb : listed.getD i false with _ | _
    · exfalso
      have hm : i ∈ Region.ready md ops listed := by
        rw [mem_ready]
        refine ⟨?_, ops[i], by simp [hi], fun e h1 h2 => ?_⟩
        · have : i < listed.size := by omega
          simp [this] at hb ⊢
          exact hb
        · have := earlierB_spec he (i := i) (o := ops[i]) (by simp [hi]) e h1 h2
          exact ih e.on this (by omega)
      rw [hr] at hm
      cases hm
    · rfl

theorem getD_flip {l : Array Bool} {i : Nat} (hi : i < l.size) : l.getD i true = l.getD i false := by simp [hi]

theorem wpAny_inv {P : Program} {ops : Array Oper} {Q : Exit → Act → World → Prop} {md : Region.Mode} (he : earlierB md ops = true) (I : (Nat → Bool) → Act → World → Prop)
    (step : ∀ (L : Nat → Bool) (i : Nat) (o : Oper) (a : Act) (w : World), ops[i]? = some o → L i = false → (∀ e ∈ o.after, Region.binds md e = true → L e.on = true) → I L a w → wpOp P ops Q i (I fun j => j == i || L j) a w)
    (fin : ∀ (L : Nat → Bool) (a : Act) (w : World), (∀ i, i < ops.size → L i = true) → I L a w → Q .normal a w) :
    ∀ (fuel : Nat) (listed : Array Bool) (a : Act) (w : World), listed.size = ops.size → listed.toList.count false ≤ fuel → I (fun j => listed.getD j false) a w → wpAny P md ops Q fuel listed a w := by
  intro fuel
  induction fuel with
  | zero =>
    intro listed a w hs hc hI
    have hr : Region.ready md ops listed = [] := by
      rcases hr : Region.ready md ops listed with _ | ⟨i, r⟩
      · rfl
      · exfalso
        have hm : i ∈ Region.ready md ops listed := by rw [hr]; simp
        rw [mem_ready] at hm
        obtain ⟨h1, o, ho, _⟩ := hm
        have hi : i < listed.size := by rw [hs]; exact (Array.getElem?_eq_some_iff.1 ho).1
        have : false ∈ listed.toList := by
          have e : listed[i] = false := by simpa [hi] using h1
          rw [← e]
          simp
        have := List.count_pos_iff.2 this
        omega
    exact ⟨hr, fin _ a w (all_listed he hs hr) hI⟩
  | succ fuel ih =>
    intro listed a w hs hc hI
    refine ⟨fun hr => fin _ a w (all_listed he hs hr) hI, fun i hm => ?_⟩
    rw [mem_ready] at hm
    obtain ⟨h1, o, ho, hd⟩ := hm
    have hi : i < listed.size := by rw [hs]; exact (Array.getElem?_eq_some_iff.1 ho).1
    have hL : listed.getD i false = false := by rw [← getD_flip hi]; exact h1
    refine wpOp_mono (fun a w hI' => ?_) (step (fun j => listed.getD j false) i o a w ho hL hd hI)
    refine ih _ a w (by simpa using hs) ?_ ?_
    · have e : listed[i] = false := by simpa [hi] using h1
      have hl : i < listed.toList.length := by simpa using hi
      have hp : 0 < listed.toList.count false := List.count_pos_iff.2 (by rw [← e]; simp)
      rw [Array.toList_setIfInBounds, List.count_set hl]
      have e2 : (listed.toList[i] == false) = true := by simp [e]
      rw [if_pos e2, if_neg (by decide)]
      omega
    · have hfun : (fun j => (listed.setIfInBounds i true).getD j false) = (fun j => j == i || listed.getD j false) := by
        funext j
        by_cases hj : j = i
        · subst hj
          simp [hi]
        · have : ¬ i = j := fun h => hj h.symm
          have hbq : (j == i) = false := by simpa using hj
          rw [hbq, Bool.false_or]
          simp only [Array.getD, Array.size_setIfInBounds]
          by_cases hj2 : j < listed.size
          · simp only [hj2, dite_true]
            exact Array.getElem_setIfInBounds_ne hj2 this
          · simp only [hj2, dite_false]
      rw [hfun]
      exact hI'

theorem wp_region_inv {P : Program} {ops : Array Oper} {Q : Exit → Act → World → Prop} {id : Nat} {a : Act} {w : World} (hm : P.follows .mixedOrders = true) (he : earlierB .any ops = true) (I : (Nat → Bool) → Act → World → Prop)
    (step : ∀ (L : Nat → Bool) (i : Nat) (o : Oper) (a : Act) (w : World), ops[i]? = some o → L i = false → (∀ e ∈ o.after, Region.binds .any e = true → L e.on = true) → I L a w → wpOp P ops Q i (I fun j => j == i || L j) a w)
    (fin : ∀ (L : Nat → Bool) (a : Act) (w : World), (∀ i, i < ops.size → L i = true) → I L a w → Q .normal a w)
    (h0 : I (fun _ => false) a w.drew) : (Code.region id ops true).wp P Q a w := by
  refine wp_region_any hm ?_
  refine wpAny_inv he I step fin _ _ _ _ (by simp) (by simp) ?_
  have e : (fun j => (Array.replicate ops.size false).getD j false) = (fun _ => false) := by
    funext j
    simp [Array.getD]
  rw [e]
  exact h0

end Go.Proofs.Ytbkgfpebffmffaa
