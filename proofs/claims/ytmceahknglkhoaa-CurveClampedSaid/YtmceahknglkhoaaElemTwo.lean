/- Numbers modulo 2^255 - 19: two texts, and what is made of them. -/
import Derived.Test.YtmceahknglkhoaaElemText
namespace Go.Proofs.Ytmceahknglkhoaa
open Go.RowKit
set_option linter.unusedVariables false

/-- The numbers of two texts go in, a number's text comes out. -/
def TwoIs (s t : List UInt8) (R : Nat → Nat → Nat → Prop) (w : World) (e : Ending) (w' : World) : Prop :=
  ∃ x y z : Nat, x % PP = leN s % PP ∧ y % PP = leN t % PP ∧ R x y z ∧ e = .returned (.tuple #[S (leB (z % PP) 32), .int .i64 0]) ∧ w.grownBy w' none
def FunIs (a b : List Nat) (R : Nat → Nat → Nat → Prop) (w : World) (e : Ending) (w' : World) : Prop :=
  ∃ l, e = .returned (N5 l) ∧ Ok5 l ∧ R (lval a) (lval b) (lval l) ∧ w.grownBy w' none

set_option maxRecDepth 20000 in
set_option maxHeartbeats 4000000 in
theorem code_ntwo (w : World) (s t : List UInt8) (hs : s.length = 32) (ht : t.length = 32) (k : Nat) (cap : Array Value) (R : Nat → Nat → Nat → Prop)
    (hk : ∀ (x y : Value) (W : World), (callFunc k (#[x, y] ++ cap)).run Try.prog W = .ok (.enter k (#[x, y] ++ cap)) W)
    (hF : ∀ (W : World) (a b : List Nat), Ok5 a → Ok5 b → w.grownBy W none → Calls Try.prog k (#[N5 a, N5 b] ++ cap) W (FunIs a b R W)) :
    Calls Try.prog 31 #[S s, S t, .func (.func k) #[] cap] w (TwoIs s t R w) := by
  have A1 : ∀ W : World, Calls Try.prog 17 #[S s] W (ReadIs s W) := fun W => code_nread W s hs
  have A2 : ∀ W : World, Calls Try.prog 17 #[S t] W (ReadIs t W) := fun W => code_nread W t ht
  have HF := Lib.hid hF
  unfold S at A1 A2 ⊢
  clear hs ht hF
  go_enter Try.func31, Try.ntmps31
  go_wp2_with fail
  (with_reducible refine (A1 _).mono ?_)
  rintro e w1 ⟨a, rfl, oka, hva, hg1⟩
  obtain ⟨a0, a1, a2, a3, a4, ea⟩ := five oka.length
  have HEA := Lib.hid ea
  have hN : N5 a = .agg #[.int .u64 (a0 : Int), .int .u64 (a1 : Int), .int .u64 (a2 : Int), .int .u64 (a3 : Int), .int .u64 (a4 : Int)] := by rw [ea]; rfl
  rw [hN]
  clear ea hN A1
  obtain ⟨O1, hO1⟩ : ∃ O1, O1 = w1.heap.size := ⟨_, rfl⟩
  obtain ⟨x1, hx1⟩ : ∃ x1, x1 = w1.alloc (.cells #[.int .u64 (a0 : Int), .int .u64 (a1 : Int), .int .u64 (a2 : Int), .int .u64 (a3 : Int), .int .u64 (a4 : Int)] 37) := ⟨_, rfl⟩
  have b1 : NB x1 O1 [a0, a1, a2, a3, a4] := by rw [hx1, hO1]; exact obj_new _ _
  have HB1 := Lib.hid b1
  have HG1 := Lib.hid (show w.grownBy x1 none by rw [hx1]; exact grow_alloc hg1 _)
  have HO1 := Lib.hid hO1
  have HX1 := Lib.hid hx1
  have HVA := Lib.hid hva
  have HOA := Lib.hid oka
  clear hO1 hx1 b1 hg1 hva oka
  go_upto_region 2 with (fail)
  rw [← HO1.out, ← HX1.out]
  go_wp2_with fail
  (with_reducible refine (A2 _).mono ?_)
  rintro e w2 ⟨b, rfl, okb, hvb, hg2⟩
  obtain ⟨b0, b1, b2, b3, b4, eb⟩ := five okb.length
  have HEB := Lib.hid eb
  have hN : N5 b = .agg #[.int .u64 (b0 : Int), .int .u64 (b1 : Int), .int .u64 (b2 : Int), .int .u64 (b3 : Int), .int .u64 (b4 : Int)] := by rw [eb]; rfl
  rw [hN]
  clear eb hN A2
  obtain ⟨O2, hO2⟩ : ∃ O2, O2 = w2.heap.size := ⟨_, rfl⟩
  obtain ⟨x2, hx2⟩ : ∃ x2, x2 = w2.alloc (.cells #[.int .u64 (b0 : Int), .int .u64 (b1 : Int), .int .u64 (b2 : Int), .int .u64 (b3 : Int), .int .u64 (b4 : Int)] 37) := ⟨_, rfl⟩
  have c1 : NB x2 O2 [b0, b1, b2, b3, b4] := by rw [hx2, hO2]; exact obj_new _ _
  have c2 : NB x2 O1 [a0, a1, a2, a3, a4] := by rw [hx2]; exact obj_alloc (Blk.kept HB1.out hg2 nofun)
  obtain ⟨⟨p0, p1, p2, p3, p4⟩, _⟩ := c2.five
  obtain ⟨⟨q0, q1, q2, q3, q4⟩, _⟩ := c1.five
  have hg3 : w.grownBy x2 none := by rw [hx2]; exact grow_alloc (grow_trans HG1.out hg2) _
  have A3 := HF.out x2 a b HOA.out okb hg3
  have HG3 := Lib.hid hg3
  have HO2 := Lib.hid hO2
  have HX2 := Lib.hid hx2
  have HVB := Lib.hid hvb
  clear hO2 hx2 c1 c2 hg2 hg3 hvb okb HB1
  have hNa : N5 a = .agg #[.int .u64 (a0 : Int), .int .u64 (a1 : Int), .int .u64 (a2 : Int), .int .u64 (a3 : Int), .int .u64 (a4 : Int)] := by have e := HEA.out; rw [e]; rfl
  have hNb : N5 b = .agg #[.int .u64 (b0 : Int), .int .u64 (b1 : Int), .int .u64 (b2 : Int), .int .u64 (b3 : Int), .int .u64 (b4 : Int)] := by have e := HEB.out; rw [e]; rfl
  rw [hNa, hNb] at A3
  clear hNa hNb
  go_upto_region 3 with (fail)
  rw [← HO2.out, ← HX2.out]
  go_wp2_with fail
  (with_reducible refine A3.mono ?_)
  rintro e w3 ⟨l, rfl, okl, hR, hg4⟩
  have AT : ∀ V : World, Calls Try.prog 23 #[N5 l] V (Grown (S (leB (lval l % PP) 32)) V) := fun V => code_ntext V l okl.length (fun z hz => by have := okl.le z hz; omega)
  have HRR := Lib.hid hR
  have HG4 := Lib.hid (grow_trans HG3.out hg4)
  have HVA' := HVA
  obtain ⟨V, hV⟩ : ∃ V, V = leB (lval l % PP) 32 := ⟨_, rfl⟩
  rw [← hV] at AT
  have HV := Lib.hid hV
  unfold S at AT
  clear hR hg4 okl hV hk p0 p1 p2 p3 p4 q0 q1 q2 q3 q4
  go_wp2_with fail
  (with_reducible refine (AT _).mono ?_)
  rintro e w4 ⟨rfl, hg5⟩
  have HG5 := Lib.hid (grow_trans HG4.out hg5)
  clear hg5 AT
  go_wp2_with fail
  refine bodyPost_ret (v := .tuple #[.string ⟨V.toArray⟩, .int .i64 0]) (by simp [results, Try.results31, go_sem]) rfl ?_
  exact ⟨lval a, lval b, lval l, HVA.out, HVB.out, HRR.out, by rw [HV.out]; rfl, HG5.out⟩

end Go.Proofs.Ytmceahknglkhoaa
