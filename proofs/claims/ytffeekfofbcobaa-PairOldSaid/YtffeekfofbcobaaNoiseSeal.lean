/- Noise: Seal and Open of a suite. (Written by wip/gen/noise.py.) -/
import Derived.Test.YtffeekfofbcobaaNoiseOf
namespace Go.Proofs.Ytffeekfofbcobaa
open Go.RowKit
set_option linter.unusedVariables false

set_option maxRecDepth 100000 in
theorem code_nBSeal (w : World) (key nonce more text a : List UInt8) (n : Int) (C : ∀ W : World, Calls Try.prog 42 #[S key, S nonce, S more, S text] W (Grown (.tuple #[S a, .int .i64 n]) W)) :
    Calls Try.prog 97 #[.agg #[], S key, S nonce, S more, S text] w (Grown (.tuple #[S a, .int .i64 n]) w) := by
  have C1 := C (w.alloc (.cells #[] 82))
  clear C
  unfold S at *
  go_enter Try.func97, Try.ntmps97
  go_wp2_with fail
  (with_reducible refine C1.mono ?_)
  rintro e x ⟨rfl, hg⟩
  go_wp2_with fail
  go_ret2
  exact ⟨rfl, grow_trans (World.grownBy_alloc _ _ _) hg⟩

set_option maxRecDepth 100000 in
theorem code_nBOpen (w : World) (key nonce more text a : List UInt8) (n : Int) (C : ∀ W : World, Calls Try.prog 43 #[S key, S nonce, S more, S text] W (Grown (.tuple #[S a, .int .i64 n]) W)) :
    Calls Try.prog 96 #[.agg #[], S key, S nonce, S more, S text] w (Grown (.tuple #[S a, .int .i64 n]) w) := by
  have C1 := C (w.alloc (.cells #[] 82))
  clear C
  unfold S at *
  go_enter Try.func96, Try.ntmps96
  go_wp2_with fail
  (with_reducible refine C1.mono ?_)
  rintro e x ⟨rfl, hg⟩
  go_wp2_with fail
  go_ret2
  exact ⟨rfl, grow_trans (World.grownBy_alloc _ _ _) hg⟩

set_option maxRecDepth 100000 in
theorem code_nSSeal (w : World) (key nonce more text a : List UInt8) (n : Int) (C : ∀ W : World, Calls Try.prog 104 #[S key, S nonce, S more, S text] W (Grown (.tuple #[S a, .int .i64 n]) W)) :
    Calls Try.prog 101 #[.agg #[], S key, S nonce, S more, S text] w (Grown (.tuple #[S a, .int .i64 n]) w) := by
  have C1 := C (w.alloc (.cells #[] 83))
  clear C
  unfold S at *
  go_enter Try.func101, Try.ntmps101
  go_wp2_with fail
  (with_reducible refine C1.mono ?_)
  rintro e x ⟨rfl, hg⟩
  go_wp2_with fail
  go_ret2
  exact ⟨rfl, grow_trans (World.grownBy_alloc _ _ _) hg⟩

set_option maxRecDepth 100000 in
theorem code_nSOpen (w : World) (key nonce more text a : List UInt8) (n : Int) (C : ∀ W : World, Calls Try.prog 103 #[S key, S nonce, S more, S text] W (Grown (.tuple #[S a, .int .i64 n]) W)) :
    Calls Try.prog 100 #[.agg #[], S key, S nonce, S more, S text] w (Grown (.tuple #[S a, .int .i64 n]) w) := by
  have C1 := C (w.alloc (.cells #[] 83))
  clear C
  unfold S at *
  go_enter Try.func100, Try.ntmps100
  go_wp2_with fail
  (with_reducible refine C1.mono ?_)
  rintro e x ⟨rfl, hg⟩
  go_wp2_with fail
  go_ret2
  exact ⟨rfl, grow_trans (World.grownBy_alloc _ _ _) hg⟩

theorem nil_BSeal (k : Nat) (W : World) : (nilAhead (k + 1) 82 (.agg #[]) "souterrain/noise.seal").run Try.prog W = .ok (some false) W := by kernel_rfl
theorem nil_SSeal (k : Nat) (W : World) : (nilAhead (k + 1) 83 (.agg #[]) "souterrain/noise.seal").run Try.prog W = .ok (some false) W := by kernel_rfl
theorem nil_BOpen (k : Nat) (W : World) : (nilAhead (k + 1) 82 (.agg #[]) "souterrain/noise.open").run Try.prog W = .ok (some false) W := by kernel_rfl
theorem nil_SOpen (k : Nat) (W : World) : (nilAhead (k + 1) 83 (.agg #[]) "souterrain/noise.open").run Try.prog W = .ok (some false) W := by kernel_rfl

set_option maxRecDepth 100000 in
set_option maxHeartbeats 1000000 in
theorem code_nzSeal1 (w : World) (key more text a : List UInt8) (m : Nat) (n : Int) (hm : m < 18446744073709551616) (C : ∀ W : World, Calls Try.prog 42 #[S key, S (nonL 1 m), S more, S text] W (Grown (.tuple #[S a, .int .i64 n]) W)) :
    Calls Try.prog 17 #[.int .i64 1, S key, .int .u64 (m : Int), S more, S text] w (Grown (.tuple #[S a, .int .i64 n]) w) := by
  have A0 := code_of1 w
  have A1 := fun W : World => code_bnonce W m hm
  have A2 := fun W : World => code_nBSeal W key (nonL 1 m) more text a n C
  have NA := nil_BSeal
  have hs : suV 1 = .iface 82 (.agg #[]) := rfl
  rw [hs] at A0
  generalize nonL 1 m = O at *
  clear C hs
  unfold S at *
  go_enter Try.func17, Try.ntmps17
  go_wp2_with fail
  (with_reducible refine A0.mono ?_)
  rintro e x ⟨rfl, rfl⟩
  go_wp2_with fail
  go_region_held3 (fun _ => True) (first | trivial) (first
    | (go_at_call 95; (with_reducible refine (A1 _).mono ?_); rintro e x1 ⟨rfl, hg1⟩)
    | (go_at_call 97; (with_reducible refine (A2 _).mono ?_); rintro e x2 ⟨rfl, hg2⟩))
  all_goals
    go_wp2_with fail
    go_ret2
    exact ⟨rfl, grow_trans (grow_trans (grow_drew (grow_refl _ _)) hg1) hg2⟩

set_option maxRecDepth 100000 in
set_option maxHeartbeats 1000000 in
theorem code_nzSeal2 (w : World) (key more text a : List UInt8) (m : Nat) (n : Int) (hm : m < 18446744073709551616) (C : ∀ W : World, Calls Try.prog 104 #[S key, S (nonL 2 m), S more, S text] W (Grown (.tuple #[S a, .int .i64 n]) W)) :
    Calls Try.prog 17 #[.int .i64 2, S key, .int .u64 (m : Int), S more, S text] w (Grown (.tuple #[S a, .int .i64 n]) w) := by
  have A0 := code_of2 w
  have A1 := fun W : World => code_snonce W m hm
  have A2 := fun W : World => code_nSSeal W key (nonL 2 m) more text a n C
  have NA := nil_SSeal
  have hs : suV 2 = .iface 83 (.agg #[]) := rfl
  rw [hs] at A0
  generalize nonL 2 m = O at *
  clear C hs
  unfold S at *
  go_enter Try.func17, Try.ntmps17
  go_wp2_with fail
  (with_reducible refine A0.mono ?_)
  rintro e x ⟨rfl, rfl⟩
  go_wp2_with fail
  go_region_held3 (fun _ => True) (first | trivial) (first
    | (go_at_call 99; (with_reducible refine (A1 _).mono ?_); rintro e x1 ⟨rfl, hg1⟩)
    | (go_at_call 101; (with_reducible refine (A2 _).mono ?_); rintro e x2 ⟨rfl, hg2⟩))
  all_goals
    go_wp2_with fail
    go_ret2
    exact ⟨rfl, grow_trans (grow_trans (grow_drew (grow_refl _ _)) hg1) hg2⟩

set_option maxRecDepth 100000 in
set_option maxHeartbeats 1000000 in
theorem code_nzOpen1 (w : World) (key more text a : List UInt8) (m : Nat) (n : Int) (hm : m < 18446744073709551616) (C : ∀ W : World, Calls Try.prog 43 #[S key, S (nonL 1 m), S more, S text] W (Grown (.tuple #[S a, .int .i64 n]) W)) :
    Calls Try.prog 20 #[.int .i64 1, S key, .int .u64 (m : Int), S more, S text] w (Grown (.tuple #[S a, .int .i64 n]) w) := by
  have A0 := code_of1 w
  have A1 := fun W : World => code_bnonce W m hm
  have A2 := fun W : World => code_nBOpen W key (nonL 1 m) more text a n C
  have NA := nil_BOpen
  have hs : suV 1 = .iface 82 (.agg #[]) := rfl
  rw [hs] at A0
  generalize nonL 1 m = O at *
  clear C hs
  unfold S at *
  go_enter Try.func20, Try.ntmps20
  go_wp2_with fail
  (with_reducible refine A0.mono ?_)
  rintro e x ⟨rfl, rfl⟩
  go_wp2_with fail
  go_region_held3 (fun _ => True) (first | trivial) (first
    | (go_at_call 95; (with_reducible refine (A1 _).mono ?_); rintro e x1 ⟨rfl, hg1⟩)
    | (go_at_call 96; (with_reducible refine (A2 _).mono ?_); rintro e x2 ⟨rfl, hg2⟩))
  all_goals
    go_wp2_with fail
    go_ret2
    exact ⟨rfl, grow_trans (grow_trans (grow_drew (grow_refl _ _)) hg1) hg2⟩

set_option maxRecDepth 100000 in
set_option maxHeartbeats 1000000 in
theorem code_nzOpen2 (w : World) (key more text a : List UInt8) (m : Nat) (n : Int) (hm : m < 18446744073709551616) (C : ∀ W : World, Calls Try.prog 103 #[S key, S (nonL 2 m), S more, S text] W (Grown (.tuple #[S a, .int .i64 n]) W)) :
    Calls Try.prog 20 #[.int .i64 2, S key, .int .u64 (m : Int), S more, S text] w (Grown (.tuple #[S a, .int .i64 n]) w) := by
  have A0 := code_of2 w
  have A1 := fun W : World => code_snonce W m hm
  have A2 := fun W : World => code_nSOpen W key (nonL 2 m) more text a n C
  have NA := nil_SOpen
  have hs : suV 2 = .iface 83 (.agg #[]) := rfl
  rw [hs] at A0
  generalize nonL 2 m = O at *
  clear C hs
  unfold S at *
  go_enter Try.func20, Try.ntmps20
  go_wp2_with fail
  (with_reducible refine A0.mono ?_)
  rintro e x ⟨rfl, rfl⟩
  go_wp2_with fail
  go_region_held3 (fun _ => True) (first | trivial) (first
    | (go_at_call 99; (with_reducible refine (A1 _).mono ?_); rintro e x1 ⟨rfl, hg1⟩)
    | (go_at_call 100; (with_reducible refine (A2 _).mono ?_); rintro e x2 ⟨rfl, hg2⟩))
  all_goals
    go_wp2_with fail
    go_ret2
    exact ⟨rfl, grow_trans (grow_trans (grow_drew (grow_refl _ _)) hg1) hg2⟩

end Go.Proofs.Ytffeekfofbcobaa
