/- SHA-256: sums of texts. -/
import Derived.Test.YtbkgfpebffmffaaShaSum
namespace Go.Proofs.Ytbkgfpebffmffaa
open Go.RowKit
set_option linter.unusedVariables false

theorem absorb_small : ∀ (f : Nat) (s : List Nat) (r : List UInt8), Small32 s → Small32 (absorb f s r).1
  | 0, s, r, h => h
  | f + 1, s, r, h => by
    rw [absorb]
    split
    · exact absorb_small f _ _ (takenL_small _ _)
    · exact h
theorem shaS_small (t : List UInt8) : Small32 (shaS t).1 := absorb_small _ _ _ shaI_small

/-- A sum under way that has taken a text. -/
def HashOf (w : World) (P : Nat) (t : List UInt8) : Prop := HashIs w P (shaS t).1 (shaS t).2 (t.length % 18446744073709551616)
theorem HashOf.kept {w w' : World} {P : Nat} {t : List UInt8} {x : Option Nat} (h : HashOf w P t) (g : w.grownBy w' x) (hr : some P ≠ x) : HashOf w' P t := HashIs.kept h g hr

def NewIs (w : World) (e : Ending) (w' : World) : Prop := ∃ P, e = .returned (.pointer (some ⟨P, 0, none⟩)) ∧ HashOf w' P [] ∧ w.grownBy w' none ∧ w.heap.size ≤ P
theorem hash_new (w : World) : Calls Try.prog 32 #[] w (NewIs w) :=
  (code_new w).mono fun e w' ⟨P, h1, h2, h3, h4⟩ => ⟨P, h1, h2, h3, h4⟩

def TookIs (P : Nat) (t : List UInt8) (w : World) (e : Ending) (w' : World) : Prop := e = .returned (.tuple #[]) ∧ HashOf w' P t ∧ w.grownBy w' (some P)
theorem hash_write (w : World) (P : Nat) (t u : List UInt8) (hP : HashOf w P t) (hu : 64 + u.length ≤ 9223372036854775807) :
    Calls Try.prog 33 #[.pointer (some ⟨P, 0, none⟩), S u] w (TookIs P (t ++ u) w) := by
  have hr := shaS_rest t
  refine (code_write w P (shaS t).1 (shaS t).2 u (t.length % 18446744073709551616) hP (shaS_len t) (shaS_small t) (Nat.mod_lt _ (by omega)) (by omega)).mono ?_
  rintro e w' ⟨h1, h2, h3⟩
  refine ⟨h1, ?_, h3⟩
  unfold HashOf
  have e1 : shaS (t ++ u) = absorb ((shaS t).2.length + u.length) (shaS t).1 ((shaS t).2 ++ u) := by
    rw [shaS_app]
    exact absorb_fuel _ _ _ _ (by rw [List.length_append]; omega) (by rw [List.length_append]; omega)
  rw [e1, show (t ++ u).length % 18446744073709551616 = (t.length % 18446744073709551616 + u.length) % 18446744073709551616 from by rw [List.length_append, Nat.mod_add_mod]]
  exact h2
theorem hash_sum (w : World) (P : Nat) (t : List UInt8) (hP : HashOf w P t) : Calls Try.prog 34 #[.pointer (some ⟨P, 0, none⟩)] w (Grown (S (shaL t)) w) :=
  code_hsum w P (shaS t).1 (shaS t).2 (t.length % 18446744073709551616) hP (shaS_len t) (shaS_small t) (Nat.mod_lt _ (by omega)) (shaS_rest t)

set_option maxHeartbeats 1000000 in
theorem sha_sum (w : World) (t : List UInt8) (ht : 64 + t.length ≤ 9223372036854775807) : Calls Try.prog 27 #[S t] w (Grown (S (shaL t)) w) := by
  have A1 := fun (W : World) (P : Nat) (hP : HashOf W P []) => hash_write W P [] t hP ht
  have A2 := fun (W : World) (P : Nat) (hP : HashOf W P t) => hash_sum W P t hP
  rw [List.nil_append] at A1
  generalize shaL t = V at *
  unfold S at *
  go_enter Try.func27, Try.ntmps27
  go_wp2_with fail
  (with_reducible refine (hash_new _).mono ?_)
  rintro e x1 ⟨P, rfl, hP, hg1, hPw⟩
  have A3 := A1 x1 P hP
  have HG1 := Lib.hid hg1
  clear hP A1 hg1
  go_wp2_with fail
  (with_reducible refine A3.mono ?_)
  rintro e x2 ⟨rfl, hP2, hg2⟩
  have A4 := A2 x2 P hP2
  have HG2 := Lib.hid (grow_trans_new HG1.out hg2 hPw)
  clear hP2 A2 A3 hg2
  go_wp2_with fail
  (with_reducible refine A4.mono ?_)
  rintro e x3 ⟨rfl, hg3⟩
  go_wp2_with fail
  go_ret
  exact ⟨rfl, grow_trans HG2.out hg3⟩

end Go.Proofs.Ytbkgfpebffmffaa
