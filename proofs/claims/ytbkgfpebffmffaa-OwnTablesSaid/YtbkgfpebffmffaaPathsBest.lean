/- The longest prefix that holds an address: plain. -/
import Derived.Test.YtbkgfpebffmffaaPathsPlain
namespace Go.Proofs.Ytbkgfpebffmffaa
set_option linter.unusedVariables false

/-- Does it hold the address? -/
def hasX (a : Nat) (x : Pf × Int) : Bool := x.1 == bitsA a x.1.length
theorem hasX_iff {a : Nat} {x : Pf × Int} : hasX a x = true ↔ x.1 = bitsA a x.1.length := by unfold hasX; exact beq_iff_eq
def bestX (a : Nat) (b : Int) (x : Pf × Int) : Int := if hasX a x && decide (b < (x.1.length : Int)) then (x.1.length : Int) else b
def bestL (a : Nat) (l : List (Pf × Int)) : Int := l.foldl (bestX a) (-1)
theorem bestL_snoc (a : Nat) (l : List (Pf × Int)) (x : Pf × Int) : bestL a (l ++ [x]) = bestX a (bestL a l) x := by
  unfold bestL
  rw [List.foldl_append]
  rfl
theorem bestX_le (a : Nat) (b : Int) (x : Pf × Int) : b ≤ bestX a b x := by
  unfold bestX
  split
  · rename_i h
    simp only [Bool.and_eq_true, decide_eq_true_eq] at h
    omega
  · omega
theorem fold_ge (a : Nat) : ∀ (l : List (Pf × Int)) (b : Int), b ≤ l.foldl (bestX a) b ∧ ∀ x ∈ l, hasX a x = true → (x.1.length : Int) ≤ l.foldl (bestX a) b
  | [], b => ⟨Int.le_refl _, fun x h => by cases h⟩
  | y :: l, b => by
    obtain ⟨h1, h2⟩ := fold_ge a l (bestX a b y)
    have h3 := bestX_le a b y
    refine ⟨Int.le_trans h3 h1, fun x hx hh => ?_⟩
    rcases List.mem_cons.1 hx with rfl | hx
    · refine Int.le_trans ?_ h1
      unfold bestX
      rw [hh]
      by_cases q : b < (x.1.length : Int)
      · simp [q]
      · simp [q]; omega
    · exact h2 x hx hh
theorem best_ge (a : Nat) (l : List (Pf × Int)) : -1 ≤ bestL a l ∧ ∀ x ∈ l, hasX a x = true → (x.1.length : Int) ≤ bestL a l := fold_ge a l (-1)
theorem fold_att (a : Nat) : ∀ (l : List (Pf × Int)) (b : Int), l.foldl (bestX a) b = b ∨ ∃ x ∈ l, hasX a x = true ∧ l.foldl (bestX a) b = (x.1.length : Int)
  | [], b => Or.inl rfl
  | y :: l, b => by
    rcases fold_att a l (bestX a b y) with h | ⟨x, h1, h2, h3⟩
    · show l.foldl (bestX a) (bestX a b y) = b ∨ _
      rw [h]
      by_cases q : (hasX a y && decide (b < (y.1.length : Int))) = true
      · right
        refine ⟨y, List.mem_cons_self, (Bool.and_eq_true _ _ ▸ q).1, ?_⟩
        show l.foldl (bestX a) (bestX a b y) = _
        rw [h]
        unfold bestX
        rw [if_pos q]
      · left
        unfold bestX
        rw [if_neg q]
    · exact Or.inr ⟨x, List.mem_cons_of_mem _ h1, h2, h3⟩
theorem best_att (a : Nat) (l : List (Pf × Int)) : bestL a l = -1 ∨ ∃ x ∈ l, hasX a x = true ∧ bestL a l = (x.1.length : Int) := fold_att a l (-1)

/-- What holds it is found. -/
theorem has_found (O : Own) (a : Nat) (x : Pf × Int) (hx : x ∈ allP O) (h : hasX a x = true) : ∃ v, findP O a 32 = some v := by
  obtain ⟨h1, h2⟩ := (allP_mem O x).1 hx
  have h3 := hasX_iff.1 h
  cases e : findP O a 32 with
  | some v => exact ⟨v, rfl⟩
  | none =>
    have := find_none O a 32 e x.1.length h1
    rw [← h3, h2] at this
    cases this
theorem has_full (O : Own) (a : Nat) (x : Pf × Int) (hx : x ∈ allP O) (h : hasX a x = true) (h32 : x.1.length = 32) : findP O a 32 = some x.2 := by
  obtain ⟨h1, h2⟩ := (allP_mem O x).1 hx
  have h3 := hasX_iff.1 h
  rw [h32] at h3
  show (match O (bitsA a 32) with
    | some v => some v
    | none => findP O a 31) = _
  rw [← h3, h2]
theorem none_found (O : Own) (a : Nat) (h : bestL a (allP O) < 0) : findP O a 32 = none := by
  cases e : findP O a 32 with
  | none => rfl
  | some v =>
    obtain ⟨k, h1, h2, h3⟩ := find_some O a 32 v e
    have hm : (bitsA a k, v) ∈ allP O := (allP_mem O _).2 ⟨by rw [bitsA_length]; exact h1, h2⟩
    have := (best_ge a (allP O)).2 _ hm (hasX_iff.2 (by show bitsA a k = bitsA a (bitsA a k).length; rw [bitsA_length]))
    rw [bitsA_length] at this
    omega
theorem best_found (O : Own) (a : Nat) (x : Pf × Int) (hx : x ∈ allP O) (h : hasX a x = true) (hb : (x.1.length : Int) = bestL a (allP O)) : findP O a 32 = some x.2 := by
  obtain ⟨h1, h2⟩ := (allP_mem O x).1 hx
  have h3 := hasX_iff.1 h
  have hn : ∀ j, x.1.length < j → j ≤ 32 → O (bitsA a j) = none := fun j hj hj2 => by
    cases e : O (bitsA a j) with
    | none => rfl
    | some v =>
      have hm : (bitsA a j, v) ∈ allP O := (allP_mem O _).2 ⟨by rw [bitsA_length]; exact hj2, e⟩
      have := (best_ge a (allP O)).2 _ hm (hasX_iff.2 (by show bitsA a j = bitsA a (bitsA a j).length; rw [bitsA_length]))
      rw [bitsA_length] at this
      omega
  rw [find_more O a x.1.length 32 h1 hn]
  cases e : x.1.length with
  | zero =>
    rw [e] at h3
    have : x.1 = [] := h3
    rw [this] at h2
    exact h2
  | succ m =>
    rw [e] at h3
    rw [findP, ← h3, h2]
theorem best_some (O : Own) (a : Nat) (h : ¬ bestL a (allP O) < 0) : ∃ x ∈ allP O, hasX a x = true ∧ (x.1.length : Int) = bestL a (allP O) := by
  rcases best_att a (allP O) with e | ⟨x, h1, h2, h3⟩
  · omega
  · exact ⟨x, h1, h2, h3.symm⟩
end Go.Proofs.Ytbkgfpebffmffaa
