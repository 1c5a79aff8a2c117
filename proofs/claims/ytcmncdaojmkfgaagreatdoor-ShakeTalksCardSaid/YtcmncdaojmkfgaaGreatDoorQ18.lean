/-
  Several texts of this claim in one: Num3, TagPlain, Quarter.
-/
import Derived.Test.YtcmncdaojmkfgaaGreatDoorBase
import Derived.Test.YtcmncdaojmkfgaaGreatDoorQ02
namespace Go.Proofs.YtcmncdaojmkfgaaGreatDoor
set_option linter.unusedVariables false

/-- 2^64. -/
abbrev W64 : Nat := 18446744073709551616

/-- The words of a number, modulo 2^192. -/
def N3 (x : Nat) : Value := .agg #[.int .u64 ((x % 18446744073709551616 : Nat) : Int), .int .u64 ((x / 18446744073709551616 % 18446744073709551616 : Nat) : Int), .int .u64 ((x / 18446744073709551616 / 18446744073709551616 % 18446744073709551616 : Nat) : Int)]

/-- The sum's words out of the words. -/
theorem sum_words (x y : Nat) : ∃ c0 c1 : Nat, c0 ≤ 1 ∧ c1 ≤ 1 ∧ c0 = (x % 18446744073709551616 + y % 18446744073709551616) / 18446744073709551616 ∧
    (x % 18446744073709551616 + y % 18446744073709551616) % 18446744073709551616 = (x + y) % 18446744073709551616 ∧
    c1 = (x / 18446744073709551616 % 18446744073709551616 + y / 18446744073709551616 % 18446744073709551616 + c0) / 18446744073709551616 ∧
    (x / 18446744073709551616 % 18446744073709551616 + y / 18446744073709551616 % 18446744073709551616 + c0) % 18446744073709551616 = (x + y) / 18446744073709551616 % 18446744073709551616 ∧
    (x / 18446744073709551616 / 18446744073709551616 % 18446744073709551616 + y / 18446744073709551616 / 18446744073709551616 % 18446744073709551616 + c1) % 18446744073709551616 = (x + y) / 18446744073709551616 / 18446744073709551616 % 18446744073709551616 := by
  have h1 : (x + y) / 18446744073709551616 = x / 18446744073709551616 + y / 18446744073709551616 + (x % 18446744073709551616 + y % 18446744073709551616) / 18446744073709551616 := by omega
  refine ⟨_, _, ?_, ?_, rfl, ?_, rfl, ?_, ?_⟩
  · omega
  · omega
  · omega
  · rw [h1]; omega
  · rw [h1]
    have h0 : (x % 18446744073709551616 + y % 18446744073709551616) / 18446744073709551616 ≤ 1 := by omega
    generalize (x % 18446744073709551616 + y % 18446744073709551616) / 18446744073709551616 = c at *
    generalize x / 18446744073709551616 = X
    generalize y / 18446744073709551616 = Y
    have h2 : (X + Y + c) / 18446744073709551616 = X / 18446744073709551616 + Y / 18446744073709551616 + (X % 18446744073709551616 + Y % 18446744073709551616 + c) / 18446744073709551616 := by omega
    rw [h2]
    omega

/-- Folded: what lies above 2^130, five times, is added below. -/
def pfold (x : Nat) : Nat := x % 1361129467683753853853498429727072845824 + 5 * (x / 1361129467683753853853498429727072845824) % 18446744073709551616

/-- A product, nearly modulo 2^130 - 5. -/
def pmul (x r : Nat) : Nat := pfold ((x * r % 1361129467683753853853498429727072845824 + 5 * (x * r / 1361129467683753853853498429727072845824)) % 6277101735386680763835789423207666416102355444464034512896)

def pleast (x : Nat) : Nat :=
  let y := pfold x
  let m := y + 5
  if 0 < m / 18446744073709551616 / 18446744073709551616 % 18446744073709551616 / 4 then m % 1361129467683753853853498429727072845824 else y

theorem of_words (a b c : Nat) (ha : a < 18446744073709551616) (hb : b < 18446744073709551616) (hc : c < 18446744073709551616) (x : Nat) (hx : x = a + 18446744073709551616 * b + 340282366920938463463374607431768211456 * c) :
    x % 18446744073709551616 = a ∧ x / 18446744073709551616 % 18446744073709551616 = b ∧ x / 18446744073709551616 / 18446744073709551616 % 18446744073709551616 = c := by
  have h1 : x / 18446744073709551616 = b + 18446744073709551616 * c := by omega
  refine ⟨by omega, by rw [h1]; omega, by rw [h1]; omega⟩
theorem words_of (x a b c : Nat) (hx : x < 6277101735386680763835789423207666416102355444464034512896) (ha : a = x % 18446744073709551616) (hb : b = x / 18446744073709551616 % 18446744073709551616) (hc : c = x / 18446744073709551616 / 18446744073709551616 % 18446744073709551616) :
    x = a + 18446744073709551616 * b + 340282366920938463463374607431768211456 * c ∧ a < 18446744073709551616 ∧ b < 18446744073709551616 ∧ c < 18446744073709551616 := by
  have h0 : x / 18446744073709551616 < 340282366920938463463374607431768211456 := by omega
  have h1 : x / 18446744073709551616 / 18446744073709551616 < 18446744073709551616 := by omega
  refine ⟨?_, by omega, by omega, by omega⟩
  omega
theorem fold_words (x a b c : Nat) (h : x = a + 18446744073709551616 * b + 340282366920938463463374607431768211456 * c) (ha : a < 18446744073709551616) (hb : b < 18446744073709551616) :
   x % 1361129467683753853853498429727072845824 = a + 18446744073709551616 * b + 340282366920938463463374607431768211456 * (c % 4) ∧ x / 1361129467683753853853498429727072845824 = c / 4 := by omega

theorem N3_of (a b c : Nat) (ha : a < 18446744073709551616) (hb : b < 18446744073709551616) (hc : c < 18446744073709551616) :
    N3 (a + 18446744073709551616 * b + 340282366920938463463374607431768211456 * c) = .agg #[.int .u64 (a : Int), .int .u64 (b : Int), .int .u64 (c : Int)] := by
  obtain ⟨h1, h2, h3⟩ := of_words a b c ha hb hc _ rfl
  unfold N3
  rw [h1, h2, h3]

theorem N3_small (a : Nat) (ha : a < 18446744073709551616) : N3 a = .agg #[.int .u64 (a : Int), .int .u64 0, .int .u64 0] := by
  have := N3_of a 0 0 ha (by omega) (by omega)
  simpa using this

theorem N3_two (a b : Nat) (ha : a < 18446744073709551616) (hb : b < 18446744073709551616) : N3 (a + 18446744073709551616 * b) = .agg #[.int .u64 (a : Int), .int .u64 (b : Int), .int .u64 0] := by
  have := N3_of a b 0 ha hb (by omega)
  simpa using this

/-- Only what is below 2^192 counts. -/
theorem N3_mod (x : Nat) : N3 (x % 6277101735386680763835789423207666416102355444464034512896) = N3 x := by
  have e1 : x % 6277101735386680763835789423207666416102355444464034512896 % 18446744073709551616 = x % 18446744073709551616 := by omega
  have e2 : x % 6277101735386680763835789423207666416102355444464034512896 / 18446744073709551616 % 18446744073709551616 = x / 18446744073709551616 % 18446744073709551616 := by omega
  have e3 : x % 6277101735386680763835789423207666416102355444464034512896 / 18446744073709551616 / 18446744073709551616 % 18446744073709551616 = x / 18446744073709551616 / 18446744073709551616 % 18446744073709551616 := by omega
  unfold N3
  rw [e1, e2, e3]

end Go.Proofs.YtcmncdaojmkfgaaGreatDoor

namespace Go.Proofs.YtcmncdaojmkfgaaGreatDoor
open Go.RowKit
set_option linter.unusedVariables false

/-- What is heard of the parts, by r. -/
def pacc (r : Nat) : Nat → Nat → List UInt8 → Nat
  | 0, a, _ => a
  | f + 1, a, t => if t = [] then a else pacc r f (pmul (a + leN (t.take 16 ++ [1])) r) (t.drop 16)

def polyR (key : List UInt8) : Nat := (leN (key.take 8) &&& 1152921487695413247) + 18446744073709551616 * (leN ((key.drop 8).take 8) &&& 1152921487695413244)
def polyN (key : List UInt8) : Nat := leN ((key.drop 16).take 8) + 18446744073709551616 * leN ((key.drop 24).take 8)
def polyA (key text : List UInt8) : Nat := pleast (pacc (polyR key) (text.length + 1) 0 text)
def tagL (key text : List UInt8) : List UInt8 := leB ((polyA key text + polyN key) % 18446744073709551616) 8 ++ leB ((polyA key text + polyN key) / 18446744073709551616 % 18446744073709551616) 8

theorem pacc_fuel (r : Nat) : ∀ (f g a : Nat) (t : List UInt8), t.length < f → t.length < g → pacc r f a t = pacc r g a t
  | 0, _, _, _, h, _ => by omega
  | _, 0, _, _, _, h => by omega
  | f + 1, g + 1, a, t, hf, hg => by
    unfold pacc
    by_cases h : t = []
    · rw [if_pos h, if_pos h]
    · rw [if_neg h, if_neg h]
      have hl : 0 < t.length := List.length_pos_iff.mpr h
      exact pacc_fuel r f g _ _ (by rw [List.length_drop]; omega) (by rw [List.length_drop]; omega)

theorem pacc_step (r a : Nat) (t : List UInt8) (h : 0 < t.length) : pacc r (t.length + 1) a t = pacc r ((t.drop 16).length + 1) (pmul (a + leN (t.take 16 ++ [1])) r) (t.drop 16) := by
  have hn : t ≠ [] := List.length_pos_iff.mp h
  conv => lhs; unfold pacc
  rw [if_neg hn]
  exact pacc_fuel r _ _ _ _ (by rw [List.length_drop]; omega) (by omega)

theorem pacc_nil (r a : Nat) : pacc r (([] : List UInt8).length + 1) a [] = a := by simp [pacc]

theorem leN_append : ∀ l r : List UInt8, leN (l ++ r) = leN l + 256 ^ l.length * leN r
  | [], r => by simp [leN]
  | c :: l, r => by
    have := leN_append l r
    simp only [List.cons_append, leN, this, List.length_cons, Nat.pow_succ]
    rw [Nat.mul_add, ← Nat.add_assoc, Nat.mul_comm (256 ^ l.length) 256, Nat.mul_assoc]

/-- A part of at most 17 bytes, by words. -/
theorem leN_words (p : List UInt8) : leN p = leN (p.take 8) + 18446744073709551616 * leN ((p.drop 8).take 8) + 340282366920938463463374607431768211456 * leN (p.drop 16) := by
  have h1 : p = p.take 8 ++ ((p.drop 8).take 8 ++ p.drop 16) := by
    have e1 := List.take_append_drop 8 p
    have e2 := List.take_append_drop 8 (p.drop 8)
    rw [List.drop_drop] at e2
    rw [e2, e1]
  by_cases q : 16 ≤ p.length
  · have l1 : (p.take 8).length = 8 := by rw [List.length_take]; omega
    have l2 : ((p.drop 8).take 8).length = 8 := by rw [List.length_take, List.length_drop]; omega
    conv => lhs; rw [h1]
    rw [leN_append, leN_append, l1, l2]
    omega
  · have l3 : p.drop 16 = [] := List.drop_of_length_le (by omega)
    rw [l3] at h1 ⊢
    rw [List.append_nil] at h1
    by_cases q8 : 8 ≤ p.length
    · have l1 : (p.take 8).length = 8 := by rw [List.length_take]; omega
      conv => lhs; rw [h1]
      rw [leN_append, l1]
      simp [leN]
    · have l4 : p.drop 8 = [] := List.drop_of_length_le (by omega)
      have l5 : p.take 8 = p := List.take_of_length_le (by omega)
      rw [l4, l5]
      simp [leN]

theorem ptag_num (f pt : List UInt8) (hpt : pt = f ++ [1]) (hf : f.length ≤ 16) :
    N3 (leN pt) = .agg #[.int .u64 (leN (pt.take 8) : Int), .int .u64 (leN ((pt.drop 8).take 8) : Int), .int .u64 ((if f.length = 16 then 1 else 0 : Nat) : Int)] := by
  have h0 : leN (pt.take 8) < 18446744073709551616 := leN_lt8 _ (by rw [List.length_take]; omega)
  have h1 : leN ((pt.drop 8).take 8) < 18446744073709551616 := leN_lt8 _ (by rw [List.length_take]; omega)
  have h2 : leN (pt.drop 16) = if f.length = 16 then 1 else 0 := by
    by_cases h : f.length = 16
    · rw [if_pos h, hpt, ← h, List.drop_left]
      rfl
    · rw [if_neg h, hpt, List.drop_of_length_le (by simp; omega)]
      rfl
  rw [leN_words pt, h2]
  exact N3_of _ _ _ h0 h1 (by split <;> omega)

theorem ptag_zero (f pt : List UInt8) (hpt : pt = f ++ [1]) (hf : f.length < 8) : leN ((pt.drop 8).take 8) = 0 := by
  rw [hpt, List.drop_of_length_le (by simp; omega)]
  rfl

theorem ptag_lt (f pt : List UInt8) (hpt : pt = f ++ [1]) (hf : f.length ≤ 16) : leN pt < 87112285931760246646623899502532662132736 := by
  have h := leN_lt pt
  have : 256 ^ pt.length ≤ 256 ^ 17 := Nat.pow_le_pow_right (by omega) (by rw [hpt]; simp; omega)
  exact Nat.lt_of_lt_of_le h this

end Go.Proofs.YtcmncdaojmkfgaaGreatDoor

namespace Go.Proofs.YtcmncdaojmkfgaaGreatDoor
open Go.RowKit
set_option linter.unusedVariables false

abbrev W4 := Nat × Nat × Nat × Nat
def add32 (a b : Nat) : Nat := (a + b) % 4294967296
def sub32 (a b : Nat) : Nat := (a + (4294967296 - b)) % 4294967296

/-- One of the two steps of a quarter. -/
def qstep (s t : Nat) : W4 → W4
  | (a, b, c, d) =>
    let a := add32 a b
    let d := rotl32 (d ^^^ a) s
    let c := add32 c d
    let b := rotl32 (b ^^^ c) t
    (a, b, c, d)

def qquarter (x : W4) : W4 := qstep 8 7 (qstep 16 12 x)

def bstep (s t : Nat) : W4 → W4
  | (a, b, c, d) =>
    let b := rotl32 b (32 - t) ^^^ c
    let c := sub32 c d
    let d := rotl32 d (32 - s) ^^^ a
    let a := sub32 a b
    (a, b, c, d)

def qback (x : W4) : W4 := bstep 16 12 (bstep 8 7 x)

def Ok4 : W4 → Prop
  | (a, b, c, d) => a < 4294967296 ∧ b < 4294967296 ∧ c < 4294967296 ∧ d < 4294967296

theorem qstep_ok (s t : Nat) (x : W4) (h : Ok4 x) : Ok4 (qstep s t x) := by
  obtain ⟨a, b, c, d⟩ := x
  obtain ⟨ha, hb, hc, hd⟩ := h
  have h1 : add32 a b < 4294967296 := Nat.mod_lt _ (by omega)
  have h2 := rotl32_lt (s := s) (xor32_lt hd h1)
  have h3 : add32 c (rotl32 (d ^^^ add32 a b) s) < 4294967296 := Nat.mod_lt _ (by omega)
  exact ⟨h1, rotl32_lt (xor32_lt hb h3), h3, h2⟩

theorem bstep_ok (s t : Nat) (x : W4) (h : Ok4 x) : Ok4 (bstep s t x) := by
  obtain ⟨a, b, c, d⟩ := x
  obtain ⟨ha, hb, hc, hd⟩ := h
  exact ⟨Nat.mod_lt _ (by omega), xor32_lt (rotl32_lt hb) hc, Nat.mod_lt _ (by omega), xor32_lt (rotl32_lt hd) ha⟩

theorem sub_add32 {a b : Nat} (ha : a < 4294967296) (hb : b < 4294967296) : sub32 (add32 a b) b = a := by unfold sub32 add32; omega
theorem add_sub32 {a b : Nat} (ha : a < 4294967296) (hb : b < 4294967296) : add32 (sub32 a b) b = a := by unfold sub32 add32; omega

theorem bstep_qstep (s t : Nat) (hs : 0 < s ∧ s < 32) (ht : 0 < t ∧ t < 32) (x : W4) (h : Ok4 x) : bstep s t (qstep s t x) = x := by
  have ok := qstep_ok s t x h
  obtain ⟨a, b, c, d⟩ := x
  obtain ⟨ha, hb, hc, hd⟩ := h
  simp only [qstep, bstep] at ok ⊢
  obtain ⟨o1, o2, o3, o4⟩ := ok
  rw [rotl32_back _ t (xor32_lt hb o3) ht.1 ht.2, rotl32_back _ s (xor32_lt hd o1) hs.1 hs.2, Nat.xor_assoc, Nat.xor_assoc, Nat.xor_self, Nat.xor_self, Nat.xor_zero, Nat.xor_zero, sub_add32 ha hb, sub_add32 hc o4]

theorem rotl32_forth (x s : Nat) (hx : x < 4294967296) (h0 : 0 < s) (hs : s < 32) : rotl32 (rotl32 x (32 - s)) s = x := by
  have := rotl32_back x (32 - s) hx (by omega) (by omega)
  rwa [show 32 - (32 - s) = s from by omega] at this

theorem qstep_bstep (s t : Nat) (hs : 0 < s ∧ s < 32) (ht : 0 < t ∧ t < 32) (x : W4) (h : Ok4 x) : qstep s t (bstep s t x) = x := by
  have ok := bstep_ok s t x h
  obtain ⟨a, b, c, d⟩ := x
  obtain ⟨ha, hb, hc, hd⟩ := h
  simp only [qstep, bstep] at ok ⊢
  obtain ⟨o1, o2, o3, o4⟩ := ok
  rw [add_sub32 ha o2, Nat.xor_assoc (rotl32 d (32 - s)) a a, Nat.xor_self, Nat.xor_zero, rotl32_forth _ s hd hs.1 hs.2, add_sub32 hc hd, Nat.xor_assoc, Nat.xor_self, Nat.xor_zero, rotl32_forth _ t hb ht.1 ht.2]

theorem qback_qquarter (x : W4) (h : Ok4 x) : qback (qquarter x) = x := by
  unfold qback qquarter
  rw [bstep_qstep 8 7 (by omega) (by omega) _ (qstep_ok _ _ _ h), bstep_qstep 16 12 (by omega) (by omega) _ h]

theorem qquarter_qback (x : W4) (h : Ok4 x) : qquarter (qback x) = x := by
  unfold qback qquarter
  rw [qstep_bstep 16 12 (by omega) (by omega) _ (bstep_ok _ _ _ h), qstep_bstep 8 7 (by omega) (by omega) _ h]

/-- Four words as results. -/
def R4 : W4 → Value
  | (a, b, c, d) => .tuple #[.int .u32 a, .int .u32 b, .int .u32 c, .int .u32 d]

theorem add32_val (a b : Nat) : ((a : Int) + (b : Int)) % 4294967296 = ((add32 a b : Nat) : Int) := by unfold add32; omega
theorem sub32_val (a b : Nat) (hb : b < 4294967296) : ((a : Int) - (b : Int)) % 4294967296 = ((sub32 a b : Nat) : Int) := by unfold sub32; omega

theorem idxQ0 (w : World) (a b c d : Int) : (Instr.index 230 (.agg #[.int .i64 a, .int .i64 b, .int .i64 c, .int .i64 d]) (.int .i64 0)).run Tryz.prog w = .ok (.agg #[.int .i64 a, .int .i64 b]) w := by kernel_rfl
theorem idxQ1 (w : World) (a b c d : Int) : (Instr.index 230 (.agg #[.int .i64 a, .int .i64 b, .int .i64 c, .int .i64 d]) (.int .i64 1)).run Tryz.prog w = .ok (.agg #[.int .i64 c, .int .i64 d]) w := by kernel_rfl

set_option maxHeartbeats 1000000 in
theorem code_quarter (w : World) (a b c d : Nat) (ha : a < 4294967296) (hb : b < 4294967296) (hc : c < 4294967296) (hd : d < 4294967296) :
    Calls Tryz.prog 159 #[.int .u32 a, .int .u32 b, .int .u32 c, .int .u32 d] w fun e w' => e = .returned (R4 (qquarter (a, b, c, d))) ∧ w.grownBy w' none := by
  have k1 : bits .and .u64 (IntKind.u64.wrap 16) 31 = ((16 : Nat) : Int) := by decide +kernel
  have k2 : bits .and .u64 (IntKind.u64.wrap 12) 31 = ((12 : Nat) : Int) := by decide +kernel
  have k3 : bits .and .u64 (IntKind.u64.wrap 8) 31 = ((8 : Nat) : Int) := by decide +kernel
  have k4 : bits .and .u64 (IntKind.u64.wrap 7) 31 = ((7 : Nat) : Int) := by decide +kernel
  have hi0 := idxQ0
  have hi1 := idxQ1
  have HF : ∃ V, V = R4 (qquarter (a, b, c, d)) := ⟨_, rfl⟩
  obtain ⟨V, hV⟩ := HF
  rw [← hV]
  have HV := Lib.hid hV
  clear hV
  go_enter Tryz.func159, Tryz.ntmps159
  go_wp2_with fail
  refine wp_loop_rounds 3 ?_
  rw [rounds_succ]
  go_wp2_with fail
  rw [add32_val a b]
  obtain ⟨a1, ea1⟩ : ∃ z, z = add32 a b := ⟨_, rfl⟩
  have la1 : a1 < 4294967296 := by rw [ea1]; exact Nat.mod_lt _ (by omega)
  rw [← ea1, u32_xor_nat _ _ hd la1]
  have Ea1 := Lib.hid ea1
  clear ea1
  refine (rot32_any _ 16 _ _ (xor32_lt hd la1) k1 (by omega) (by omega)).mono ?_
  rintro e x1 ⟨rfl, rfl⟩
  obtain ⟨d1, ed1⟩ : ∃ z, z = rotl32 (d ^^^ a1) 16 := ⟨_, rfl⟩
  have ld1 : d1 < 4294967296 := by rw [ed1]; exact rotl32_lt (xor32_lt hd la1)
  rw [← ed1]
  have Ed1 := Lib.hid ed1
  clear ed1
  go_wp2_with fail
  rw [add32_val c d1]
  obtain ⟨c1, ec1⟩ : ∃ z, z = add32 c d1 := ⟨_, rfl⟩
  have lc1 : c1 < 4294967296 := by rw [ec1]; exact Nat.mod_lt _ (by omega)
  rw [← ec1, u32_xor_nat _ _ hb lc1]
  have Ec1 := Lib.hid ec1
  clear ec1
  refine (rot32_any _ 12 _ _ (xor32_lt hb lc1) k2 (by omega) (by omega)).mono ?_
  rintro e y1 ⟨rfl, rfl⟩
  obtain ⟨b1, eb1⟩ : ∃ z, z = rotl32 (b ^^^ c1) 12 := ⟨_, rfl⟩
  have lb1 : b1 < 4294967296 := by rw [eb1]; exact rotl32_lt (xor32_lt hb lc1)
  rw [← eb1]
  have Eb1 := Lib.hid eb1
  clear eb1
  go_wp2_with fail
  rw [rounds_succ]
  go_wp2_with fail
  rw [add32_val a1 b1]
  obtain ⟨a2, ea2⟩ : ∃ z, z = add32 a1 b1 := ⟨_, rfl⟩
  have la2 : a2 < 4294967296 := by rw [ea2]; exact Nat.mod_lt _ (by omega)
  rw [← ea2, u32_xor_nat _ _ ld1 la2]
  have Ea2 := Lib.hid ea2
  clear ea2
  refine (rot32_any _ 8 _ _ (xor32_lt ld1 la2) k3 (by omega) (by omega)).mono ?_
  rintro e x2 ⟨rfl, rfl⟩
  obtain ⟨d2, ed2⟩ : ∃ z, z = rotl32 (d1 ^^^ a2) 8 := ⟨_, rfl⟩
  have ld2 : d2 < 4294967296 := by rw [ed2]; exact rotl32_lt (xor32_lt ld1 la2)
  rw [← ed2]
  have Ed2 := Lib.hid ed2
  clear ed2
  go_wp2_with fail
  rw [add32_val c1 d2]
  obtain ⟨c2, ec2⟩ : ∃ z, z = add32 c1 d2 := ⟨_, rfl⟩
  have lc2 : c2 < 4294967296 := by rw [ec2]; exact Nat.mod_lt _ (by omega)
  rw [← ec2, u32_xor_nat _ _ lb1 lc2]
  have Ec2 := Lib.hid ec2
  clear ec2
  refine (rot32_any _ 7 _ _ (xor32_lt lb1 lc2) k4 (by omega) (by omega)).mono ?_
  rintro e y2 ⟨rfl, rfl⟩
  obtain ⟨b2, eb2⟩ : ∃ z, z = rotl32 (b1 ^^^ c2) 7 := ⟨_, rfl⟩
  have lb2 : b2 < 4294967296 := by rw [eb2]; exact rotl32_lt (xor32_lt lb1 lc2)
  rw [← eb2]
  have Eb2 := Lib.hid eb2
  clear eb2
  go_wp2_with fail
  rw [rounds_succ]
  go_wp2_with fail
  go_returns
  refine ⟨?_, by repeat (first | exact grow_refl _ _ | apply grow_drew | apply grow_setCell_new _ _ (by simp) | apply grow_alloc)⟩
  rw [HV.out]
  have ea1 := Ea1.out
  have ed1 := Ed1.out
  have ec1 := Ec1.out
  have eb1 := Eb1.out
  have ea2 := Ea2.out
  have ed2 := Ed2.out
  have ec2 := Ec2.out
  have eb2 := Eb2.out
  clear Ea1 Ed1 Ec1 Eb1 Ea2 Ed2 Ec2 Eb2
  subst ea1 ed1 ec1 eb1 ea2 ed2 ec2 eb2
  rfl

end Go.Proofs.YtcmncdaojmkfgaaGreatDoor
