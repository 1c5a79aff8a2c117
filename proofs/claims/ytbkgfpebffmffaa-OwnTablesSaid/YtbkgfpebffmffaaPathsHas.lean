/- What has an address; paths in a slice of the call's own. -/
import Derived.Test.YtbkgfpebffmffaaPathsTable
import Derived.Test.YtbkgfpebffmffaaPathsBest
namespace Go.Proofs.Ytbkgfpebffmffaa
open Go.RowKit
set_option linter.unusedVariables false

theorem xor_shift (a b k : Nat) : (a ^^^ b) / 2 ^ k = 0 ↔ a / 2 ^ k = b / 2 ^ k := by
  rw [← Nat.shiftRight_eq_div_pow, ← Nat.shiftRight_eq_div_pow, ← Nat.shiftRight_eq_div_pow, Nat.shiftRight_xor_distrib]
  constructor
  · intro h
    apply Nat.eq_of_testBit_eq
    intro i
    have := congrArg (fun n => Nat.testBit n i) h
    simp only [Nat.testBit_xor, Nat.zero_testBit, bne_eq_false_iff_eq] at this
    exact this
  · intro h
    rw [h, Nat.xor_self]
theorem has_bit (p : Pf) (a : Nat) (hp : p.length ≤ 32) (ha : a < 2 ^ 32) : (addrP p ^^^ a) / 2 ^ (32 - p.length) = 0 ↔ p = bitsA a p.length := (xor_shift _ _ _).trans (holds_iff p a hp ha)

set_option maxHeartbeats 1000000 in
theorem code_khas (w : World) (x : Pf × Int) (hp : x.1.length ≤ 32) (a : Nat) (ha : a < 4294967296) :
    Calls Try.prog 12 #[.agg #[.int .u32 (addrP x.1 : Int), .int .i64 (x.1.length : Int)], .int .u32 (a : Int)] w fun e w' => e = .returned (.bool (hasX a x)) ∧ w.grownBy w' none := by
  obtain ⟨k, hk⟩ : ∃ k, k = 32 - x.1.length := ⟨_, rfl⟩
  have s1 : IntKind.i64.wrap (32 - (x.1.length : Int)) = (k : Int) := by
    rw [show (32 - (x.1.length : Int) : Int) = (k : Int) from by omega]
    exact IntWalk.i64_in _ (by omega)
  have s2 : (0 : Int) ≤ (k : Int) := by omega
  have s3 : ((k : Int)).toNat = k := by omega
  have s4 := u32_xor_nat (addrP x.1) a (addrP_lt x.1 hp) ha
  have hb := has_bit x.1 a hp ha
  rw [← hk] at hb
  have HK := Lib.hid hk
  have hk32 : min k 32 = k := by omega
  clear hk
  generalize (addrP x.1 ^^^ a) = z at *
  have hz0 : x.1.length = 0 → hasX a x = true := fun h => by
    have : x.1 = [] := List.eq_nil_of_length_eq_zero h
    rw [hasX_iff, this]
    rfl
  have hxx : hasX a x = true ↔ z / 2 ^ k = 0 := by rw [hb, hasX_iff]
  have HX := Lib.hid hxx
  have HZ := Lib.hid hz0
  clear hb hz0 hxx
  by_cases q : z / 2 ^ k = 0
  · have q1 : (z : Int) / 2 ^ k = 0 := by rw [show (z : Int) / 2 ^ k = ((z / 2 ^ k : Nat) : Int) from by simp, q]; rfl
    have q2 : (z : Int) / 2 ^ min k 32 = 0 := by rw [hk32]; exact q1
    have HH := Lib.hid (HX.out.2 q)
    clear q
    go_enter Try.func12, Try.ntmps12
    go_wp2_with fail
    go_ret
    exact ⟨by rw [HH.out]; rfl, World.grownBy_alloc _ _ _⟩
  · have q1 : ¬ (z : Int) / 2 ^ k = 0 := by rw [show (z : Int) / 2 ^ k = ((z / 2 ^ k : Nat) : Int) from by simp]; omega
    have q2 : ¬ (z : Int) / 2 ^ min k 32 = 0 := by rw [hk32]; exact q1
    have hn0 : x.1.length ≠ 0 := fun h => q (HX.out.1 (HZ.out h))
    have hn1 : ¬ ((x.1.length : Int) = 0) := by omega
    have qb1 : ((z : Int) / 2 ^ k == 0) = false := by rw [beq_eq_false_iff_ne]; exact q1
    have qb2 : ((x.1.length : Int) == 0) = false := by rw [beq_eq_false_iff_ne]; exact hn1
    have HH : Hid (hasX a x = false) := Lib.hid (by
      cases e : hasX a x with
      | false => rfl
      | true => exact absurd (HX.out.1 e) q)
    clear q hn0
    go_enter Try.func12, Try.ntmps12
    go_wp2_with fail
    go_ret
    exact ⟨by rw [HH.out]; rfl, World.grownBy_alloc _ _ _⟩

theorem add_offP (g i : Nat) : (⟨g, 0, none⟩ : Addr).add i = ⟨g, i, none⟩ := by unfold Addr.add; split <;> simp_all
/-- A path in a slice. -/
def PathIn (w : World) (x : Addr) (i : Nat) (p : Pf × Int) : Prop :=
  w.cell? (x.add (i * 3)) = some (.int .u32 (addrP p.1 : Int)) ∧ w.cell? ⟨(x.add (i * 3)).block, (x.add (i * 3)).off + 1, none⟩ = some (.int .i64 (p.1.length : Int)) ∧ w.cell? ⟨(x.add (i * 3)).block, (x.add (i * 3)).off + 2, none⟩ = some (.int .i64 p.2)
theorem pth_at (l : List (Pf × Int)) (i j : Nat) (hi : i < l.length) (hj : j < 3) : (l.flatMap pthC)[i * 3 + j]? = (pthC l[i])[j]? := by
  induction l generalizing i with
  | nil => simp at hi
  | cons x l ih =>
    rw [List.flatMap_cons]
    cases i with
    | zero =>
      rw [Nat.zero_mul, Nat.zero_add, List.getElem?_append_left (by show j < 3; exact hj)]
      rfl
    | succ i =>
      have e : (i + 1) * 3 + j = i * 3 + j + 3 := by omega
      rw [List.getElem?_append_right (by show 3 ≤ _; omega), e]
      show (List.flatMap pthC l)[i * 3 + j + 3 - 3]? = _
      rw [Nat.add_sub_cancel]
      exact ih i (by simpa using hi)
theorem prow_at {w : World} {base : Nat} {v : Value} {l : List (Pf × Int)} (h : prow w base v l) (hl : l ≠ []) :
    ∃ x cap, v = .slice (some x) l.length cap ∧ v.ownBlock = some x.block ∧ ∀ i (hi : i < l.length), PathIn w x i l[i] := by
  rcases h.2 with ⟨_, hn⟩ | ⟨g, cap, cur, hv, hbg, hg, hnc, hcm, hcs, htake⟩
  · exact absurd (List.eq_nil_of_length_eq_zero hn) hl
  · subst hv
    refine ⟨⟨g, 0, none⟩, cap, rfl, rfl, fun i hi => ?_⟩
    have key : ∀ j, j < 3 → w.cell? ⟨g, i * 3 + j, none⟩ = (pthC l[i])[j]? := fun j hj => by
      have e1 := pth_at l i j hi hj
      have e3 : (pthC l[i])[j]? ≠ none := by
        match j, hj with
        | 0, _ => exact nofun
        | 1, _ => exact nofun
        | 2, _ => exact nofun
      cases e4 : (pthC l[i])[j]? with
      | none => exact absurd e4 e3
      | some u =>
        rw [e4] at e1
        have e2 := World.ownsRow.cells h (g := g) rfl (i * 3 + j) u e1
        rwa [add_offP] at e2
    unfold PathIn
    rw [add_offP]
    exact ⟨key 0 (by omega), key 1 (by omega), key 2 (by omega)⟩
theorem PathIn.kept {w w' : World} {x : Addr} {i : Nat} {p : Pf × Int} {r : Option Nat} (h : PathIn w x i p) (g : w.grownBy w' r) (hr : some x.block ≠ r) : PathIn w' x i p := by
  obtain ⟨h1, h2, h3⟩ := h
  have e : (x.add (i * 3)).block = x.block := add_block _ _
  exact ⟨g.cell (a := x.add (i * 3)) h1 (by rw [e]; exact hr), g.cell h2 (by show some (x.add (i * 3)).block ≠ r; rw [e]; exact hr), g.cell h3 (by show some (x.add (i * 3)).block ≠ r; rw [e]; exact hr)⟩

end Go.Proofs.Ytbkgfpebffmffaa
