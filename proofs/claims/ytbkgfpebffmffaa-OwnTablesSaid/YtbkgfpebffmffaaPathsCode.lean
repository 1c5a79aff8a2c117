/- The functions of a table of prefixes: New, each, Find. -/
import Derived.Test.YtbkgfpebffmffaaPathsWalk
namespace Go.Proofs.Ytbkgfpebffmffaa
open Go.RowKit
set_option linter.unusedVariables false

theorem code_ptnew (w : World) : Calls Try.prog 17 #[] w fun e w' => e = .returned (.pointer (some ⟨w.heap.size, 0, none⟩)) ∧ Tree w' w.heap.size (fun p => if p = [] then some w.heap.size else none) (fun _ => false) (fun _ => 0) 0 ∧ w.grownBy w' none := by
  go_enter Try.func17, Try.ntmps17
  go_wp2
  go_ret
  have hb := obj_new w (.cells #[.pointer none, .pointer none, .bool false, .int .i64 0, .int .i64 0] 57)
  refine ⟨rfl, ⟨if_pos rfl, ?_, ?_, ?_, ?_, ?_, ?_⟩, World.grownBy_alloc _ _ none⟩
  · intro p q b hp hq
    split at hp
    · split at hq
      · rename_i e1 e2; rw [e1, e2]
      · cases hq
    · cases hp
  · intro p c _
    simp
  · intro p b hp
    split at hp
    · rename_i e; rw [e]; simp
    · cases hp
  · intro p hp; cases hp
  · intro p; omega
  · intro p b hp
    split at hp
    · rename_i e
      subst e
      obtain rfl := Option.some.inj hp
      unfold NodeIn
      rw [if_pos rfl]
      have e1 : nodeC (fun p => if p = [] then some w.heap.size else none) (fun _ => false) (fun _ => 0) [] = [.pointer none, .pointer none, .bool false, .int .i64 0] := by
        unfold nodeC ptrN
        simp
      rw [e1]
      exact hb
    · cases hp

theorem code_pteach (w : World) (tb : Nat) (N : Pf → Option Nat) (M : Pf → Bool) (V : Pf → Int) (many : Nat) (T : Tree w tb N M V many) :
    SeqAll Try.prog 20 #[.pointer (some ⟨tb, 0, none⟩)] #[] (fun x : Pf × Int => #[Pv x.1, ptrN (N x.1)]) (allP (ownO M V)) Pt (fun pre W => Rw tb N M pre W ∧ w.heap.size ≤ W.heap.size) w := by
  intro l J W hW hJ hR hY h0
  have A := code_ptwalk tb l N M V T.pre T.len T.mark w.heap.size J hJ (fun pre W h => (hR pre W h).2) (fun pre W h => (hR pre W h).1) hY 33 [] 0 0 [] [] W rfl rfl (fun _ => rfl) (by rw [List.nil_append, List.append_nil]; rfl) h0
  rw [T.root] at A
  unfold ptrN at A
  simp only [Option.map_some] at A
  have e0 : (#[Value.pointer (some ⟨tb, 0, none⟩)] ++ #[Value.func (.yield l) #[] #[]] ++ #[] : Array Value) = #[.pointer (some ⟨tb, 0, none⟩), .func (.yield l) #[] #[]] := rfl
  rw [e0]
  go_enter Try.func20, Try.ntmps20
  go_wp2_with fail
  (with_reducible refine A.mono ?_)
  rintro e W1 ⟨rfl, hJ1, _⟩
  go_wp2_with fail
  go_end0
  exact ⟨⟨_, rfl⟩, hJ1⟩

theorem u32_bit1 (a k : Nat) (ha : a < 4294967296) : bits .and .u32 ((a : Int) / 2 ^ k) 1 = ((a / 2 ^ k % 2 : Nat) : Int) := by
  have e : ((a : Int) / 2 ^ k) = ((a / 2 ^ k : Nat) : Int) := by simp
  rw [e, show (1 : Int) = ((1 : Nat) : Int) from rfl, u32_and_nat _ _ (Nat.lt_of_le_of_lt (Nat.div_le_self _ _) ha) (by omega), nat_mask1]

def retF (o : Option Int) : Value := .tuple #[.int .i64 (o.getD 0), .bool o.isSome]
/-- Whose an address is, by fewer than so many bits. -/
def findB (O : Own) (a : Nat) : Nat → Option Int
  | 0 => none
  | n + 1 => match O (bitsA a n) with
    | some v => some v
    | none => findB O a n
theorem findB_P (O : Own) (a : Nat) : ∀ n, findB O a (n + 1) = findP O a n
  | 0 => by
    show (match O (bitsA a 0) with | some v => some v | none => none) = O []
    show (match O [] with | some v => some v | none => none) = O []
    cases O [] <;> rfl
  | n + 1 => by
    show (match O (bitsA a (n + 1)) with | some v => some v | none => findB O a (n + 1)) = _
    rw [findB_P O a n, findP]
    rfl
theorem findB_more (O : Own) (a n : Nat) : ∀ m, n ≤ m → (∀ j, n ≤ j → j < m → O (bitsA a j) = none) → findB O a m = findB O a n
  | 0, h, _ => by
    obtain rfl : n = 0 := by omega
    rfl
  | m + 1, h, hn => by
    by_cases q : n = m + 1
    · subst q; rfl
    · show (match O (bitsA a m) with | some v => some v | none => findB O a m) = _
      rw [hn m (by omega) (Nat.lt_succ_self _)]
      exact findB_more O a n m (by omega) (fun j h1 h2 => hn j h1 (by omega))
theorem findB_succ (M : Pf → Bool) (V : Pf → Int) (a i : Nat) : findB (ownO M V) a (i + 1) = if M (bitsA a i) then some (V (bitsA a i)) else findB (ownO M V) a i := by
  show (match ownO M V (bitsA a i) with | some v => some v | none => findB (ownO M V) a i) = _
  unfold ownO
  cases M (bitsA a i) <;> rfl
theorem bits_take (a : Nat) : ∀ i j, i ≤ j → ∃ r, bitsA a j = bitsA a i ++ r := fun i j h => by
  induction j with
  | zero => exact ⟨[], by rw [show i = 0 from by omega]; rfl⟩
  | succ j ih =>
    by_cases q : i = j + 1
    · exact ⟨[], by rw [q, List.append_nil]⟩
    · obtain ⟨r, hr⟩ := ih (by omega)
      exact ⟨r ++ [a / 2 ^ (31 - j) % 2 == 1], by rw [bitsA_succ, hr, List.append_assoc]⟩

set_option maxHeartbeats 2000000 in
theorem code_ptfind (w : World) (tb : Nat) (N : Pf → Option Nat) (M : Pf → Bool) (V : Pf → Int) (many : Nat) (T : Tree w tb N M V many) (a : Nat) (ha : a < 4294967296) :
    Calls Try.prog 11 #[.pointer (some ⟨tb, 0, none⟩), .int .u32 (a : Int)] w fun e w' => e = .returned (retF (findP (ownO M V) a 32)) ∧ w.grownBy w' none := by
  go_enter Try.func11, Try.ntmps11
  go_wp2_with fail
  go_loopw [6, 7, 8, 9] (fun v6 v7 v8 v9 wr => ∃ i : Nat, i ≤ 32 ∧ v9 = .int .i64 i ∧ v8 = ptrN (N (bitsA a i)) ∧ v6 = .int .i64 ((findB (ownO M V) a i).getD 0) ∧ v7 = .bool (findB (ownO M V) a i).isSome ∧ w.grownBy wr none) (fun _ _ _ v9 _ => 33 - (intOf v9).toNat)
  case atStart => exact ⟨0, by omega, rfl, by show _ = ptrN (N []); rw [T.root]; rfl, rfl, rfl, grow_refl _ _⟩
  case round =>
    obtain ⟨i, hi, rfl, rfl, rfl, rfl, hg⟩ := hrel
    cases hN : N (bitsA a i) with
    | none =>
      have hf : findP (ownO M V) a 32 = findB (ownO M V) a i := by
        rw [← findB_P]
        exact findB_more _ _ _ _ (by omega) fun j h1 h2 => by
          obtain ⟨r, hr⟩ := bits_take a i j h1
          rw [hr]
          exact own_none T.pre T.mark _ hN r
      have HF := Lib.hid hf
      clear hf
      generalize findB (ownO M V) a i = x at *
      unfold ptrN
      simp only [Option.map_none]
      go_wp2_with fail
      go_ret2
      exact ⟨by rw [HF.out]; rfl, hg⟩
    | some b =>
      obtain ⟨k0, k1, k2, k3⟩ := ((T.new hg).blk _ b hN).cells
      have hs := findB_succ M V a i
      have hP := findB_P (ownO M V) a 32
      have hv := T.val (bitsA a i)
      have hk := bitsA_succ a i
      generalize findB (ownO M V) a i = x at *
      unfold ptrN
      simp only [Option.map_some]
      by_cases h32 : i = 32
      · subst h32
        rw [hs] at hP
        have HF := Lib.hid hP
        clear hP hs hk
        cases hM : M (bitsA a 32) with
        | true =>
          rw [hM] at k2 HF
          go_wp2_with fail
          go_ret2
          exact ⟨by rw [← HF.out]; rfl, hg⟩
        | false =>
          rw [hM] at k2 HF
          go_wp2_with fail
          go_ret2
          exact ⟨by rw [← HF.out]; rfl, hg⟩
      · have hne : ((i : Int) == 32) = false := by rw [beq_eq_false_iff_ne]; omega
        obtain ⟨k, hkk⟩ : ∃ k, k = 31 - i := ⟨_, rfl⟩
        have s1 : IntKind.i64.wrap (31 - (i : Int)) = (k : Int) := by
          rw [show (31 - (i : Int) : Int) = (k : Int) from by omega]
          exact IntWalk.i64_in _ (by omega)
        have s2 : (0 : Int) ≤ (k : Int) := by omega
        have s3 : ((k : Int)).toNat = k := by omega
        have s4 := u32_bit1 a k ha
        rw [← hkk] at hk
        cases hM : M (bitsA a i) with
        | true =>
          rw [hM] at k2 hs
          simp only [if_true] at hs
          go_wp2_with fail
          have HS := Lib.hid hs
          have HK := Lib.hid hk
          have hk32 : min k 32 = k := by clear hs hk; omega
          clear hs hk hP hkk
          rcases Nat.mod_two_eq_zero_or_one (a / 2 ^ k) with hc | hc
          all_goals
            rw [hc] at s4 HK
            have s5 := s4
            rw [show (2 : Int) ^ k = 2 ^ min k 32 from by rw [hk32]] at s5
            go_quiet (fail)
            go_wp2_with fail
            go_roundw
            case rel => exact ⟨i + 1, by omega, by go_num, by rw [HK.out]; rfl, by rw [HS.out]; try rfl, by rw [HS.out]; try rfl, grow_drewN hg _⟩
            case measure => simp [intOf]; omega
        | false =>
          rw [hM] at k2 hs
          simp only [Bool.false_eq_true, if_false] at hs
          go_wp2_with fail
          have HS := Lib.hid hs
          have HK := Lib.hid hk
          have hk32 : min k 32 = k := by clear hs hk; omega
          clear hs hk hP hkk
          rcases Nat.mod_two_eq_zero_or_one (a / 2 ^ k) with hc | hc
          all_goals
            rw [hc] at s4 HK
            have s5 := s4
            rw [show (2 : Int) ^ k = 2 ^ min k 32 from by rw [hk32]] at s5
            go_quiet (fail)
            go_wp2_with fail
            go_roundw
            case rel => exact ⟨i + 1, by omega, by go_num, by rw [HK.out]; rfl, by rw [HS.out]; try rfl, by rw [HS.out]; try rfl, grow_drewN hg _⟩
            case measure => simp [intOf]; omega

end Go.Proofs.Ytbkgfpebffmffaa
