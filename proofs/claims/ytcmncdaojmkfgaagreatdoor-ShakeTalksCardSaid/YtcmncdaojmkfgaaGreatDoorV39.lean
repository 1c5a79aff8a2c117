/-
  Several texts of this claim in one: WindowPlain, NoiseSeal, NoiseOps, Strs.
-/
import Derived.Test.YtcmncdaojmkfgaaGreatDoorBase
import Derived.Laws.BitsAllLaws
import Derived.Test.YtcmncdaojmkfgaaGreatDoorR09
import Derived.Test.YtcmncdaojmkfgaaGreatDoorNoisePlain
import Derived.Test.YtcmncdaojmkfgaaGreatDoorQ02
namespace Go.Proofs.YtcmncdaojmkfgaaGreatDoor
open Go.RowKit
set_option linter.unusedVariables false

theorem p64 : (18446744073709551616 : Nat) = 2 ^ 64 := by decide

def wnCheck (next : Int) (m : Nat) (n : Int) : Int :=
  if n < 0 ∨ 1099511627776 < n then 1 else
  if next - 1 - n < 0 then 0 else
  if 64 ≤ next - 1 - n ∨ m.testBit (next - 1 - n).toNat = true then 11 else 0

theorem u64_bit (m k : Nat) (hm : m < 18446744073709551616) (_hk : k < 64) : (bits .and .u64 ((m : Int) / 2 ^ k) 1 == 1) = m.testBit k := by
  have e : ((m : Int) / 2 ^ k) = ((m / 2 ^ k : Nat) : Int) := by simp
  rw [e, show (1 : Int) = ((1 : Nat) : Int) from rfl, u64_and_nat _ _ (Nat.lt_of_le_of_lt (Nat.div_le_self _ _) hm) (by omega), nat_mask1, Nat.testBit_eq_decide_div_mod_eq]
  rw [Bool.eq_iff_iff]; simp; omega

theorem u64_orpow (m k : Nat) (hm : m < 18446744073709551616) (hk : k < 64) : bits .or .u64 (m : Int) (IntKind.u64.wrap (2 ^ k)) = ((m ||| 2 ^ k : Nat) : Int) := by
  have hlt : (2 : Nat) ^ k < 18446744073709551616 := by
    have := Nat.pow_lt_pow_right (a := 2) (by omega) hk
    simpa using this
  have e : IntKind.u64.wrap ((2 : Int) ^ k) = ((2 ^ k : Nat) : Int) := by
    rw [IntKind.wrap_u64]
    have : ((2 : Int) ^ k) = ((2 ^ k : Nat) : Int) := by simp
    rw [this]; generalize (2 : Nat) ^ k = c at *; omega
  rw [e, u64_or_nat _ _ hm hlt]

theorem u64_or1 (X : Int) (N : Nat) (h : X = (N : Int)) : bits .or .u64 (IntKind.u64.wrap X) 1 = ((N % 18446744073709551616 ||| 1 : Nat) : Int) := by
  rw [h, IntKind.wrap_u64, show ((N : Int) % 18446744073709551616) = ((N % 18446744073709551616 : Nat) : Int) from by simp, show (1 : Int) = ((1 : Nat) : Int) from rfl, u64_or_nat _ _ (by omega) (by omega)]

theorem wnCheck_bd {next : Int} {m : Nat} {n : Int} (h : wnCheck next m n = 0) : 0 ≤ n ∧ n ≤ 1099511627776 := by
  unfold wnCheck at h
  by_cases hA : n < 0 ∨ 1099511627776 < n
  · rw [if_pos hA] at h; omega
  · omega

theorem wnCheck_old {next : Int} {m : Nat} {n : Int} (h : wnCheck next m n = 0) (hlt : n < next) : next - 1 - n < 64 := by
  obtain ⟨a, b⟩ := wnCheck_bd h
  unfold wnCheck at h
  rw [if_neg (by omega), if_neg (by omega)] at h
  by_cases hA : 64 ≤ next - 1 - n
  · rw [if_pos (Or.inl hA)] at h; omega
  · omega

/-- What taking a higher number leaves of the bits. -/
def wnUp (next : Int) (m : Nat) (n : Int) : Nat := (m * 2 ^ (min (n + 1 - next) 64).toNat) % 18446744073709551616 ||| 1

def wnTake (next : Int) (m : Nat) (n : Int) : Int × Nat :=
  if wnCheck next m n ≠ 0 then (next, m) else if n < next then (next, m ||| 2 ^ (next - 1 - n).toNat) else (n + 1, wnUp next m n)

theorem wnUp_lt (next : Int) (m : Nat) (n : Int) : wnUp next m n < 18446744073709551616 := by
  unfold wnUp
  have := p64
  rw [this]
  exact Nat.or_lt_two_pow (Nat.mod_lt _ (by omega)) (by omega)

theorem wnTake_ok (next : Int) (m : Nat) (n : Int) (h0 : 0 ≤ next) (h1 : next ≤ 1099511627777) (hm : m < 18446744073709551616) :
    next ≤ (wnTake next m n).1 ∧ (wnTake next m n).1 ≤ 1099511627777 ∧ (wnTake next m n).2 < 18446744073709551616 ∧ (wnTake next m n).1 ≤ max next (n + 1) := by
  unfold wnTake
  by_cases hc : wnCheck next m n = 0
  · obtain ⟨a, b⟩ := wnCheck_bd hc
    rw [if_neg (by simpa using hc)]
    by_cases hlt : n < next
    · rw [if_pos hlt]
      have := wnCheck_old hc hlt
      refine ⟨by simp, h1, ?_, by simp; omega⟩
      have e := p64
      rw [e] at hm ⊢
      exact Nat.or_lt_two_pow hm (Nat.pow_lt_pow_right (by omega) (by omega))
    · rw [if_neg hlt]
      exact ⟨by simp; omega, by simp; omega, wnUp_lt _ _ _, by simp; omega⟩
  · rw [if_pos hc]
    exact ⟨by simp, h1, hm, by simp; omega⟩

theorem bit_one (i : Nat) : Nat.testBit 1 i = decide (i = 0) := by
  cases i with
  | zero => rfl
  | succ i => simp [Nat.testBit_succ]

/-- Bit i of what taking a higher number leaves. -/
theorem wnUp_bit (next : Int) (m : Nat) (n : Int) (hge : next ≤ n) (i : Nat) (hi : i < 64) :
    (wnUp next m n).testBit i = (decide (i = 0) || (decide (n + 1 - next ≤ i) && m.testBit (i - (n + 1 - next).toNat))) := by
  unfold wnUp
  rw [Nat.testBit_or, show (18446744073709551616 : Nat) = 2 ^ 64 from p64, Nat.testBit_mod_two_pow, Nat.testBit_mul_two_pow]
  rw [bit_one]
  simp only [hi, decide_true, Bool.true_and]
  rw [Bool.or_comm]
  congr 1
  by_cases hc : n + 1 - next ≤ i
  · have e2 : (min (n + 1 - next) 64).toNat = (n + 1 - next).toNat := by omega
    have e3 : (n + 1 - next).toNat ≤ i := by omega
    rw [e2]
    simp [e3, hc]
  · have e3 : ¬ (min (n + 1 - next) 64).toNat ≤ i := by omega
    simp [e3, hc]

/-- THE WINDOW KEEPS WHAT CAME: the numbers that came are below 'next', and each that is not too far below has its bit. -/
def WnSeen (next : Int) (m : Nat) (seen : Int → Bool) : Prop :=
  ∀ x, seen x = true → 0 ≤ x ∧ x < next ∧ (next - 1 - x < 64 → m.testBit (next - 1 - x).toNat = true)

theorem WnSeen.fresh {next : Int} {m : Nat} {seen : Int → Bool} (h : WnSeen next m seen) {n : Int} (hc : wnCheck next m n = 0) : seen n = false := by
  obtain ⟨a, b⟩ := wnCheck_bd hc
  by_cases hs : seen n = true
  · obtain ⟨h1, h2, h3⟩ := h n hs
    have h4 := wnCheck_old hc h2
    unfold wnCheck at hc
    rw [if_neg (by omega), if_neg (by omega), if_pos (Or.inr (h3 h4))] at hc
    omega
  · simpa using hs

theorem or_pow_bit (m k i : Nat) : (m ||| 2 ^ k).testBit i = (m.testBit i || decide (k = i)) := by
  rw [Nat.testBit_or, Nat.testBit_two_pow]

theorem WnSeen.take {next : Int} {m : Nat} {seen : Int → Bool} (h : WnSeen next m seen) {n : Int} (hc : wnCheck next m n = 0) :
    WnSeen (wnTake next m n).1 (wnTake next m n).2 (fun x => seen x || decide (x = n)) := by
  obtain ⟨a, b⟩ := wnCheck_bd hc
  unfold wnTake
  rw [if_neg (by simpa using hc)]
  intro x hx
  by_cases hlt : n < next
  · rw [if_pos hlt]
    have h4 := wnCheck_old hc hlt
    by_cases hxn : x = n
    · subst hxn
      refine ⟨a, hlt, fun _ => ?_⟩
      simp
    · simp [hxn] at hx
      obtain ⟨h1, h2, h3⟩ := h x hx
      refine ⟨h1, h2, fun hk => ?_⟩
      simp only [or_pow_bit, h3 hk, Bool.true_or]
  · rw [if_neg hlt]
    by_cases hxn : x = n
    · subst hxn
      refine ⟨a, by simp; omega, fun _ => ?_⟩
      simp only
      rw [wnUp_bit _ _ _ (by omega) _ (by omega)]
      simp
    · simp [hxn] at hx
      obtain ⟨h1, h2, h3⟩ := h x hx
      refine ⟨h1, by simp; omega, fun hk => ?_⟩
      simp only at hk ⊢
      rw [wnUp_bit _ _ _ (by omega) _ (by omega)]
      have e1 : (n + 1 - 1 - x).toNat - (n + 1 - next).toNat = (next - 1 - x).toNat := by omega
      have e2 : n + 1 - next ≤ ((n + 1 - 1 - x).toNat : Int) := by omega
      rw [e1, h3 (by omega), decide_eq_true e2, Bool.and_true, Bool.or_true]

/-- What was taken just now comes too late. -/
theorem WnSeen.late {next : Int} {m : Nat} {seen : Int → Bool} (h : WnSeen next m seen) {n : Int} (hs : seen n = true) (h0 : 0 ≤ next) (h1 : next ≤ 1099511627777) : wnCheck next m n = 11 := by
  obtain ⟨a, b, c⟩ := h n hs
  unfold wnCheck
  rw [if_neg (by omega), if_neg (by omega)]
  by_cases hk : next - 1 - n < 64
  · rw [if_pos (Or.inr (c hk))]
  · rw [if_pos (Or.inl (by omega))]

/-- AND IT KNOWS NO OTHERS above some place: from there on the bits are just the numbers that came. -/
def WnJust (next : Int) (m : Nat) (from_ : Int) (seen : Int → Bool) : Prop :=
  ∀ x, from_ ≤ x → x < from_ + 64 → next ≤ from_ + 64 ∧ (seen x = true → x < next) ∧ (x < next → m.testBit (next - 1 - x).toNat = seen x)

theorem WnJust.check {next : Int} {m : Nat} {from_ : Int} {seen : Int → Bool} (h : WnJust next m from_ seen) {x : Int} (h0 : from_ ≤ x) (h1 : x < from_ + 64) (h2 : 0 ≤ from_) (h3 : from_ < 549755813888) :
    wnCheck next m x = if seen x = true then 11 else 0 := by
  obtain ⟨a, b, c⟩ := h x h0 h1
  unfold wnCheck
  rw [if_neg (by omega)]
  by_cases hlt : x < next
  · rw [if_neg (by omega), c hlt]
    by_cases hs : seen x = true
    · rw [if_pos (Or.inr hs), if_pos hs]
    · rw [if_neg (by simp at hs; simp [hs]; omega), if_neg hs]
  · rw [if_pos (by omega)]
    rw [if_neg (fun hs => hlt (b hs))]

theorem WnJust.take {next : Int} {m : Nat} {from_ : Int} {seen : Int → Bool} (h : WnJust next m from_ seen) {n : Int} (h0 : from_ ≤ n) (h1 : n < from_ + 64) (h2 : 0 ≤ from_) (h3 : from_ < 549755813888) :
    WnJust (wnTake next m n).1 (wnTake next m n).2 from_ (fun x => seen x || decide (x = n)) := by
  intro x x0 x1
  obtain ⟨a, b, c⟩ := h x x0 x1
  obtain ⟨a', b', c'⟩ := h n h0 h1
  have hk := h.check h0 h1 h2 h3
  unfold wnTake
  by_cases hs : seen n = true
  · rw [if_pos hs] at hk
    rw [if_pos (by omega)]
    have e : (seen x || decide (x = n)) = seen x := by
      by_cases hx : x = n
      · subst hx; simp [hs]
      · simp [hx]
    simp only [e]
    exact ⟨a, b, c⟩
  · rw [if_neg hs] at hk
    rw [if_neg (by omega)]
    by_cases hlt : n < next
    · rw [if_pos hlt]
      refine ⟨a, fun hx => ?_, fun hx => ?_⟩
      · by_cases hxn : x = n
        · subst hxn; exact hlt
        · simp [hxn] at hx; exact b hx
      · simp only at hx ⊢
        rw [or_pow_bit, c hx]
        congr 1
        have : (next - 1 - n).toNat = (next - 1 - x).toNat ↔ x = n := by omega
        simp [this]
    · rw [if_neg hlt]
      refine ⟨by simp; omega, fun hx => ?_, fun hx => ?_⟩
      · by_cases hxn : x = n
        · subst hxn; simp; omega
        · simp [hxn] at hx
          have := b hx
          simp; omega
      · simp only at hx ⊢
        rw [wnUp_bit _ _ _ (by omega) _ (by omega)]
        by_cases hxn : x = n
        · subst hxn; simp
        · have e0 : ¬ (n + 1 - 1 - x).toNat = 0 := by omega
          simp only [e0, hxn, decide_false, Bool.false_or, Bool.or_false]
          by_cases hx2 : x < next
          · have e1 : (n + 1 - 1 - x).toNat - (n + 1 - next).toNat = (next - 1 - x).toNat := by omega
            have e2 : n + 1 - next ≤ ((n + 1 - 1 - x).toNat : Int) := by omega
            rw [e1, c hx2, decide_eq_true e2, Bool.true_and]
          · have e2 : ¬ n + 1 - next ≤ ((n + 1 - 1 - x).toNat : Int) := by omega
            have : seen x = false := by
              by_cases hsx : seen x = true
              · exact absurd (b hsx) hx2
              · simpa using hsx
            rw [decide_eq_false e2, this, Bool.false_and]

theorem WnJust.start {next : Int} {m : Nat} {from_ : Int} (h : next ≤ from_) : WnJust next m from_ (fun _ => false) := by
  intro x h0 h1
  exact ⟨by omega, by simp, fun hx => by omega⟩

theorem WnSeen.start (m : Nat) (next : Int) : WnSeen next m (fun _ => false) := by intro x hx; simp at hx

end Go.Proofs.YtcmncdaojmkfgaaGreatDoor

namespace Go.Proofs.YtcmncdaojmkfgaaGreatDoor
open Go.RowKit
set_option linter.unusedVariables false

theorem nil_BSeal (k : Nat) (W : World) : (nilAhead (k + 1) 125 (.agg #[]) "souterrain/noise.seal").run Tryz.prog W = .ok (some false) W := by kernel_rfl
theorem nil_SSeal (k : Nat) (W : World) : (nilAhead (k + 1) 126 (.agg #[]) "souterrain/noise.seal").run Tryz.prog W = .ok (some false) W := by kernel_rfl
theorem nil_BOpen (k : Nat) (W : World) : (nilAhead (k + 1) 125 (.agg #[]) "souterrain/noise.open").run Tryz.prog W = .ok (some false) W := by kernel_rfl
theorem nil_SOpen (k : Nat) (W : World) : (nilAhead (k + 1) 126 (.agg #[]) "souterrain/noise.open").run Tryz.prog W = .ok (some false) W := by kernel_rfl

set_option maxRecDepth 100000 in
set_option maxHeartbeats 1000000 in
theorem code_nzSeal1 (w : World) (key more text a : List UInt8) (m : Nat) (n : Int) (hm : m < 18446744073709551616) (C : ∀ W : World, Calls Tryz.prog 143 #[S key, S (nonL 1 m), S more, S text] W (Grown (.tuple #[S a, .int .i64 n]) W)) :
    Calls Tryz.prog 30 #[.int .i64 1, S key, .int .u64 (m : Int), S more, S text] w (Grown (.tuple #[S a, .int .i64 n]) w) := by
  have A0 := code_of1 w
  have A1 := fun W : World => code_bnonce W m hm
  have A2 := fun W : World => code_nBSeal W key (nonL 1 m) more text a n C
  have NA := nil_BSeal
  have hs : suV 1 = .iface 125 (.agg #[]) := rfl
  rw [hs] at A0
  generalize nonL 1 m = O at *
  clear C hs
  unfold S at *
  go_enter Tryz.func30, Tryz.ntmps30
  go_wp2_with fail
  (with_reducible refine A0.mono ?_)
  rintro e x ⟨rfl, rfl⟩
  go_wp2_with fail
  go_region_held3 (fun _ => True) (first | trivial) (first
    | (go_at_call 139; (with_reducible refine (A1 _).mono ?_); rintro e x1 ⟨rfl, hg1⟩)
    | (go_at_call 141; (with_reducible refine (A2 _).mono ?_); rintro e x2 ⟨rfl, hg2⟩))
  all_goals
    go_wp2_with fail
    go_ret2
    exact ⟨rfl, grow_trans (grow_trans (grow_drew (grow_refl _ _)) hg1) hg2⟩

set_option maxRecDepth 100000 in
set_option maxHeartbeats 1000000 in
theorem code_nzSeal2 (w : World) (key more text a : List UInt8) (m : Nat) (n : Int) (hm : m < 18446744073709551616) (C : ∀ W : World, Calls Tryz.prog 166 #[S key, S (nonL 2 m), S more, S text] W (Grown (.tuple #[S a, .int .i64 n]) W)) :
    Calls Tryz.prog 30 #[.int .i64 2, S key, .int .u64 (m : Int), S more, S text] w (Grown (.tuple #[S a, .int .i64 n]) w) := by
  have A0 := code_of2 w
  have A1 := fun W : World => code_snonce W m hm
  have A2 := fun W : World => code_nSSeal W key (nonL 2 m) more text a n C
  have NA := nil_SSeal
  have hs : suV 2 = .iface 126 (.agg #[]) := rfl
  rw [hs] at A0
  generalize nonL 2 m = O at *
  clear C hs
  unfold S at *
  go_enter Tryz.func30, Tryz.ntmps30
  go_wp2_with fail
  (with_reducible refine A0.mono ?_)
  rintro e x ⟨rfl, rfl⟩
  go_wp2_with fail
  go_region_held3 (fun _ => True) (first | trivial) (first
    | (go_at_call 162; (with_reducible refine (A1 _).mono ?_); rintro e x1 ⟨rfl, hg1⟩)
    | (go_at_call 164; (with_reducible refine (A2 _).mono ?_); rintro e x2 ⟨rfl, hg2⟩))
  all_goals
    go_wp2_with fail
    go_ret2
    exact ⟨rfl, grow_trans (grow_trans (grow_drew (grow_refl _ _)) hg1) hg2⟩

set_option maxRecDepth 100000 in
set_option maxHeartbeats 1000000 in
theorem code_nzOpen1 (w : World) (key more text a : List UInt8) (m : Nat) (n : Int) (hm : m < 18446744073709551616) (C : ∀ W : World, Calls Tryz.prog 142 #[S key, S (nonL 1 m), S more, S text] W (Grown (.tuple #[S a, .int .i64 n]) W)) :
    Calls Tryz.prog 33 #[.int .i64 1, S key, .int .u64 (m : Int), S more, S text] w (Grown (.tuple #[S a, .int .i64 n]) w) := by
  have A0 := code_of1 w
  have A1 := fun W : World => code_bnonce W m hm
  have A2 := fun W : World => code_nBOpen W key (nonL 1 m) more text a n C
  have NA := nil_BOpen
  have hs : suV 1 = .iface 125 (.agg #[]) := rfl
  rw [hs] at A0
  generalize nonL 1 m = O at *
  clear C hs
  unfold S at *
  go_enter Tryz.func33, Tryz.ntmps33
  go_wp2_with fail
  (with_reducible refine A0.mono ?_)
  rintro e x ⟨rfl, rfl⟩
  go_wp2_with fail
  go_region_held3 (fun _ => True) (first | trivial) (first
    | (go_at_call 139; (with_reducible refine (A1 _).mono ?_); rintro e x1 ⟨rfl, hg1⟩)
    | (go_at_call 140; (with_reducible refine (A2 _).mono ?_); rintro e x2 ⟨rfl, hg2⟩))
  all_goals
    go_wp2_with fail
    go_ret2
    exact ⟨rfl, grow_trans (grow_trans (grow_drew (grow_refl _ _)) hg1) hg2⟩

set_option maxRecDepth 100000 in
set_option maxHeartbeats 1000000 in
theorem code_nzOpen2 (w : World) (key more text a : List UInt8) (m : Nat) (n : Int) (hm : m < 18446744073709551616) (C : ∀ W : World, Calls Tryz.prog 165 #[S key, S (nonL 2 m), S more, S text] W (Grown (.tuple #[S a, .int .i64 n]) W)) :
    Calls Tryz.prog 33 #[.int .i64 2, S key, .int .u64 (m : Int), S more, S text] w (Grown (.tuple #[S a, .int .i64 n]) w) := by
  have A0 := code_of2 w
  have A1 := fun W : World => code_snonce W m hm
  have A2 := fun W : World => code_nSOpen W key (nonL 2 m) more text a n C
  have NA := nil_SOpen
  have hs : suV 2 = .iface 126 (.agg #[]) := rfl
  rw [hs] at A0
  generalize nonL 2 m = O at *
  clear C hs
  unfold S at *
  go_enter Tryz.func33, Tryz.ntmps33
  go_wp2_with fail
  (with_reducible refine A0.mono ?_)
  rintro e x ⟨rfl, rfl⟩
  go_wp2_with fail
  go_region_held3 (fun _ => True) (first | trivial) (first
    | (go_at_call 162; (with_reducible refine (A1 _).mono ?_); rintro e x1 ⟨rfl, hg1⟩)
    | (go_at_call 163; (with_reducible refine (A2 _).mono ?_); rintro e x2 ⟨rfl, hg2⟩))
  all_goals
    go_wp2_with fail
    go_ret2
    exact ⟨rfl, grow_trans (grow_trans (grow_drew (grow_refl _ _)) hg1) hg2⟩

end Go.Proofs.YtcmncdaojmkfgaaGreatDoor

namespace Go.Proofs.YtcmncdaojmkfgaaGreatDoor
open Go.RowKit
set_option linter.unusedVariables false

theorem noise_seal (w : World) (suite : Nat) (h12 : suite = 1 ∨ suite = 2) (key more text : List UInt8) (n : Nat) (hn : n < 18446744073709551616) (hk : key.length = 32) (hm : more.length ≤ 2000) (ht : text.length ≤ 2000) :
    Calls Tryz.prog 30 #[.int .i64 (suite : Int), S key, .int .u64 (n : Int), S more, S text] w (Grown (.tuple #[S (sealN suite key n more text), .int .i64 0]) w) := by
  rcases h12 with rfl | rfl
  · exact code_nzSeal1 w key more text _ n 0 hn fun W => code_seal W key (nonL 1 n) more text hk (nonL_length 1 n) hm ht
  · exact code_nzSeal2 w key more text _ n 0 hn fun W => code_gseal W key (nonL 2 n) more text hk (nonL_length 2 n) hm ht

theorem noise_open (w : World) (suite : Nat) (h12 : suite = 1 ∨ suite = 2) (key more text : List UInt8) (n : Nat) (hn : n < 18446744073709551616) (hk : key.length = 32) (hm : more.length ≤ 2000) (ht : text.length ≤ 2000) :
    Calls Tryz.prog 33 #[.int .i64 (suite : Int), S key, .int .u64 (n : Int), S more, S (sealN suite key n more text)] w (Grown (.tuple #[S text, .int .i64 0]) w) := by
  rcases h12 with rfl | rfl
  · refine code_nzOpen1 w key more _ _ n 0 hn fun W => ?_
    have := code_open W key (nonL 1 n) more (chxL key (nonL 1 n) 1 text) hk (nonL_length 1 n) hm (by rw [chxL_length]; exact ht)
    rwa [chxL_twice _ _ 1 text (by omega)] at this
  · refine code_nzOpen2 w key more _ _ n 0 hn fun W => ?_
    have := code_gopen W key (nonL 2 n) more (gcxL key (nonL 2 n) text) hk (nonL_length 2 n) hm (by rw [gcxL_length _ _ _ hk (nonL_length 2 n)]; exact ht)
    rwa [gcxL_twice _ _ text hk (nonL_length 2 n)] at this

end Go.Proofs.YtcmncdaojmkfgaaGreatDoor

namespace Go.Proofs.YtcmncdaojmkfgaaGreatDoor
open Go.RowKit
set_option linter.unusedVariables false

/-- These strings lie in a row. -/
def StrsAt (w : World) (a : Option Addr) (ss : List (List UInt8)) : Prop := ∀ i (h : i < ss.length), ∃ x, a = some x ∧ w.cell? (x.add i) = some (S ss[i])

theorem StrsAt.kept {w w' : World} {r : Option Nat} {a : Option Addr} {ss : List (List UInt8)} (h : StrsAt w a ss) (g : w.grownBy w' r) (hr : ∀ x, a = some x → some x.block ≠ r) : StrsAt w' a ss := by
  intro i hi
  obtain ⟨x, hx, hc⟩ := h i hi
  refine ⟨x, hx, g.cell hc ?_⟩
  have : (x.add i).block = x.block := by unfold Addr.add; split <;> rfl
  rw [this]; exact hr x hx
theorem StrsAt.keptN {w w' : World} {a : Option Addr} {ss : List (List UInt8)} (h : StrsAt w a ss) (g : w.grownBy w' none) : StrsAt w' a ss := h.kept g (by simp)

/-- A slice of strings, which hold so many letters together at the most. -/
def IsStrs (w : World) (a : Option Addr) (len cap bound : Nat) : Prop := ∃ ss : List (List UInt8), ss.length = len ∧ len ≤ cap ∧ cap ≤ maxLen ∧ ss.flatten.length + ss.length ≤ bound ∧ StrsAt w a ss

theorem flat_succ (ss : List (List UInt8)) (k : Nat) (h : k < ss.length) : (ss.take (k + 1)).flatten = (ss.take k).flatten ++ ss[k] := by
  rw [List.take_succ_eq_append_getElem h, List.flatten_append]
  simp
theorem flat_le (ss : List (List UInt8)) (k : Nat) : (ss.take k).flatten.length ≤ ss.flatten.length := by
  have h : ss.flatten = (ss.take k).flatten ++ (ss.drop k).flatten := by rw [← List.flatten_append, List.take_append_drop]
  rw [h, List.length_append]
  omega
theorem flat_at (ss : List (List UInt8)) (k : Nat) (h : k < ss.length) : (ss.take k).flatten.length + ss[k].length ≤ ss.flatten.length := by
  have h1 := flat_le ss (k + 1)
  rw [flat_succ ss k h, List.length_append] at h1
  exact h1

end Go.Proofs.YtcmncdaojmkfgaaGreatDoor
