/- What each function of texts answers at every text: a text, or an error. -/
import Derived.Test.YtmomfbkpniblgaaGreatDoorDg34
import Derived.Test.YtmomfbkpniblgaaGreatDoorDg46
import Derived.Test.YtmomfbkpniblgaaGreatDoorDg31
import Derived.Test.YtmomfbkpniblgaaGreatDoorDg39
import Derived.Test.YtmomfbkpniblgaaGreatDoorDgAesErr
import Derived.Test.YtmomfbkpniblgaaGreatDoorDgTagErr
import Derived.Test.YtmomfbkpniblgaaGreatDoorDgKdfSum
import Derived.Test.YtmomfbkpniblgaaGreatDoorDgKdf
import Derived.Test.YtmomfbkpniblgaaGreatDoorDg20
import Derived.Test.YtmomfbkpniblgaaGreatDoorDg09
namespace Go.Proofs.YtmomfbkpniblgaaGreatDoor
open Go.RowKit
set_option linter.unusedVariables false



theorem AnyTE.ok {k : FuncId} {args : Array Value} {s : List UInt8} (hl : s.length ≤ 100000) (h : ∀ w : World, Calls Tryz.prog k args w fun e w' => e = .returned (.tuple #[S s, .int .i64 0]) ∧ w.grownBy w' none) : AnyTE k args := ⟨s, 0, hl, by omega, h⟩
theorem AnyTE.no {k : FuncId} {args : Array Value} (n : Nat) (hn : n ≤ 15) (h : ∀ w : World, Calls Tryz.prog k args w fun e w' => e = .returned (.tuple #[S [], .int .i64 (n : Int)]) ∧ w.grownBy w' none) : AnyTE k args := ⟨[], n, by simp, hn, h⟩
theorem AnyTE.same {k : FuncId} {args : Array Value} (n : Nat) (hn : n ≤ 15) (h : ∀ w : World, Calls Tryz.prog k args w fun e w' => e = .returned (.tuple #[S [], .int .i64 (n : Int)]) ∧ w = w') : AnyTE k args := AnyTE.no n hn fun w => (h w).mono fun e w' ⟨h1, h2⟩ => ⟨h1, h2 ▸ grow_refl _ _⟩
theorem AnyTE.of {k : FuncId} {args : Array Value} {B : Nat} (hB : B ≤ 100000) (h : ∃ (s : List UInt8) (n : Nat), s.length ≤ B ∧ n ≤ 15 ∧ ∀ w : World, Calls Tryz.prog k args w (Grown (.tuple #[S s, .int .i64 (n : Int)]) w)) : AnyTE k args := by
  obtain ⟨s, n, h1, h2, h3⟩ := h
  exact ⟨s, n, by omega, h2, h3⟩

theorem any_unbase (l : List UInt8) (hl : l.length ≤ 10000) : AnyTE 49 #[S l] := by
  by_cases ho : l.length % 4 = 0
  · have A := fun w => code_unbase w l (by omega) ho
    have hu : ubV l = ubNo ∨ ∃ d : List UInt8, d.length ≤ 100000 ∧ ubV l = .tuple #[S d, .int .i64 0] := by
      unfold ubV
      rw [if_pos ho]
      split
      · rename_i d _
        split
        · rename_i hb
          refine Or.inr ⟨d, ?_, rfl⟩
          have := baseL_length d
          rw [hb] at this
          omega
        · exact Or.inl rfl
      · exact Or.inl rfl
    rcases hu with h | ⟨d, hd, h⟩
    · exact AnyTE.no 3 (by omega) fun w => by have := A w; rw [h] at this; exact this
    · exact AnyTE.ok hd fun w => by have := A w; rw [h] at this; exact this
  · exact AnyTE.same 3 (by omega) fun w => code_unbase_odd w l (by omega) ho
theorem any_add (a b : List UInt8) : AnyTE 51 #[S a, S b] := by
  by_cases h : a.length = 32 ∧ b.length = 32
  · exact AnyTE.ok (s := addM a b) (by rw [addM_length]; omega) fun w => code_nadd w a b h.1 h.2
  · exact AnyTE.no 1 (by omega) fun w => code_nadd_err w a b h
theorem any_mul (a b : List UInt8) : AnyTE 52 #[S a, S b] := by
  by_cases h : a.length = 32 ∧ b.length = 32
  · exact AnyTE.ok (s := mulM a b) (by rw [mulM_length]; omega) fun w => code_nmul w a b h.1 h.2
  · exact AnyTE.no 1 (by omega) fun w => code_nmul_err w a b h
theorem any_inv (a : List UInt8) : AnyTE 53 #[S a] := by
  by_cases h : a.length = 32
  · exact AnyTE.ok (s := invM a) (by rw [invM_length]; omega) fun w => code_ninv w a h
  · exact AnyTE.no 1 (by omega) fun w => code_ninv_err w a h
theorem any_public (k : List UInt8) : AnyTE 38 #[S k] := AnyTE.of (by omega) (code_cpublic_any k)
theorem any_share (k u : List UInt8) : AnyTE 54 #[S k, S u] := AnyTE.of (by omega) (code_cshare_any k u)
theorem any_sum (su : Nat) (h12 : su = 1 ∨ su = 2) (s : List UInt8) (hs : s.length ≤ 10000) : AnyTE 91 #[.int .i64 (su : Int), S s] := AnyTE.ok (s := hashM su s) (by rw [hashM_length]; omega) fun w => code_ksum w su h12 s (by omega)
theorem any_mac (su : Nat) (h12 : su = 1 ∨ su = 2) (k s : List UInt8) (hk : k.length ≤ 10000) (hs : s.length ≤ 10000) : AnyTE 60 #[.int .i64 (su : Int), S k, S s] := AnyTE.ok (s := macM su k s) (by rw [macM_length]; omega) fun w => code_mac w su h12 k s (by omega) (by omega)
theorem any_tag (k s : List UInt8) (hs : s.length ≤ 10000) : AnyTE 56 #[S k, S s] := by
  by_cases h : k.length = 32
  · exact AnyTE.ok (s := tagL k s) (by rw [tagL_length]; omega) fun w => code_ptag w k s h (by omega)
  · exact AnyTE.no 1 (by omega) fun w => code_ptag_err w k s h
theorem any_aenc (k s : List UInt8) : AnyTE 57 #[S k, S s] := by
  by_cases h : (k.length = 16 ∨ k.length = 32) ∧ s.length = 16
  · exact AnyTE.ok (s := encL k s) (by rw [encL_length k s h.1 h.2]; omega) fun w => code_aenc w k s h.1 h.2
  · exact AnyTE.no 1 (by omega) fun w => code_aenc_err w k s h
theorem any_adec (k s : List UInt8) : AnyTE 58 #[S k, S s] := by
  by_cases h : (k.length = 16 ∨ k.length = 32) ∧ s.length = 16
  · exact AnyTE.ok (s := decL k s) (by rw [decL_length k s h.1 h.2]; omega) fun w => code_adec w k s h.1 h.2
  · exact AnyTE.no 1 (by omega) fun w => code_adec_err w k s h
theorem any_seal (k n m s : List UInt8) (hm : m.length ≤ 2000) (hs : s.length ≤ 2000) : AnyTE 101 #[S k, S n, S m, S s] := by
  by_cases h : k.length = 32 ∧ n.length = 12
  · exact AnyTE.ok (s := sealL k n m s) (by rw [sealL_length]; omega) fun w => code_seal w k n m s h.1 h.2 hm hs
  · exact AnyTE.same 1 (by omega) fun w => code_seal_err w k n m s 1 (if_neg h) rfl
theorem any_gseal (k n m s : List UInt8) (hm : m.length ≤ 2000) (hs : s.length ≤ 2000) : AnyTE 102 #[S k, S n, S m, S s] := by
  by_cases h : k.length = 32 ∧ n.length = 12
  · exact AnyTE.ok (s := gsealL k n m s) (by rw [gsealL_length k n m s h.1 h.2]; omega) fun w => code_gseal w k n m s h.1 h.2 hm hs
  · exact AnyTE.same 1 (by omega) fun w => code_gseal_err w k n m s 1 (if_neg h) rfl
theorem any_open (k n m s : List UInt8) (hm : m.length ≤ 2000) (hs : s.length ≤ 2000) : AnyTE 103 #[S k, S n, S m, S s] := by
  refine AnyTE.of (B := 2016) (by omega) ?_
  exact code_open_any k n m s hm (by omega)
theorem any_gopen (k n m s : List UInt8) (hm : m.length ≤ 2000) (hs : s.length ≤ 2000) : AnyTE 104 #[S k, S n, S m, S s] := AnyTE.of (B := 2016) (by omega) (code_gopen_any k n m s hm (by omega))

end Go.Proofs.YtmomfbkpniblgaaGreatDoor
