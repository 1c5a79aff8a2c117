/- Curve: plain laws of multiples: clamped, masked, reduced; a known one. -/
import Derived.Test.YtmceahknglkhoaaDoorCurve
namespace Go.Proofs.YtmceahknglkhoaaDoor
set_option linter.unusedVariables false

theorem and248 (c : UInt8) : c &&& 248 &&& 248 = c &&& 248 := by
  have : ∀ n : Fin 256, UInt8.ofNat n.val &&& 248 &&& 248 = UInt8.ofNat n.val &&& 248 := by decide +kernel
  have h := this ⟨c.toNat, c.toNat_lt⟩
  simpa using h
theorem top64 (c : UInt8) : (c &&& 127 ||| 64) &&& 127 ||| 64 = c &&& 127 ||| 64 := by
  have : ∀ n : Fin 256, (UInt8.ofNat n.val &&& 127 ||| 64) &&& 127 ||| 64 = UInt8.ofNat n.val &&& 127 ||| 64 := by decide +kernel
  have h := this ⟨c.toNat, c.toNat_lt⟩
  simpa using h
theorem flip127 (c : UInt8) : (c ^^^ 128) &&& 127 = c &&& 127 := by
  have : ∀ n : Fin 256, (UInt8.ofNat n.val ^^^ 128) &&& 127 = UInt8.ofNat n.val &&& 127 := by decide +kernel
  have h := this ⟨c.toNat, c.toNat_lt⟩
  simpa using h
theorem and127 (c : UInt8) : c &&& 127 &&& 127 = c &&& 127 := by
  have : ∀ n : Fin 256, UInt8.ofNat n.val &&& 127 &&& 127 = UInt8.ofNat n.val &&& 127 := by decide +kernel
  have h := this ⟨c.toNat, c.toNat_lt⟩
  simpa using h
theorem small127 (c : UInt8) (h : c.toNat < 128) : c &&& 127 = c := by
  have : ∀ n : Fin 256, n.val < 128 → UInt8.ofNat n.val &&& 127 = UInt8.ofNat n.val := by decide +kernel
  have h := this ⟨c.toNat, c.toNat_lt⟩ h
  simpa using h

theorem clampL_twice (k : List UInt8) (hk : k.length = 32) : clampL (clampL k) = clampL k := by
  have h0 : (clampL k).getD 0 0 = k.getD 0 0 &&& 248 := by
    unfold clampL
    rw [List.getD_eq_getElem?_getD, List.getElem?_set_ne (by omega), List.getElem?_set_self (by omega)]
    rfl
  have h31 : (clampL k).getD 31 0 = k.getD 31 0 &&& 127 ||| 64 := by
    unfold clampL
    rw [List.getD_eq_getElem?_getD, List.getElem?_set_self (by rw [List.length_set]; omega)]
    rfl
  have e : clampL (clampL k) = ((clampL k).set 0 ((clampL k).getD 0 0 &&& 248)).set 31 ((clampL k).getD 31 0 &&& 127 ||| 64) := rfl
  rw [e, h0, h31, and248, top64]
  unfold clampL
  apply List.ext_getElem?
  intro i
  by_cases i31 : i = 31
  · subst i31
    rw [List.getElem?_set_self (by simp; omega), List.getElem?_set_self (by simp; omega)]
  · rw [List.getElem?_set_ne (fun e => i31 e.symm)]
    by_cases i0 : i = 0
    · subst i0
      rw [List.getElem?_set_self (by simp; omega), List.getElem?_set_ne (by omega), List.getElem?_set_self (by omega)]
    · rw [List.getElem?_set_ne (fun e => i0 e.symm)]

theorem mult_clamped (k u : List UInt8) (hk : k.length = 32) : multL (clampL k) u = multL k u := by
  unfold multL
  rw [clampL_twice k hk]

/-- A text whose last byte is another one. -/
def lastL (u : List UInt8) (c : UInt8) : List UInt8 := u.take 31 ++ [c]
theorem maskL_last (u : List UInt8) (hu : u.length = 32) (c : UInt8) : maskL (lastL u c) = u.take 31 ++ [c &&& 127] := by
  have lt : (u.take 31).length = 31 := by rw [List.length_take]; omega
  unfold maskL lastL
  rw [List.set_append_right _ _ (by omega), lt]
  have : (u.take 31 ++ [c]).getD 31 0 = c := by
    rw [List.getD_eq_getElem?_getD, List.getElem?_append_right (by omega), lt]
    rfl
  rw [this]
  rfl
theorem maskL_eq (u : List UInt8) (hu : u.length = 32) : maskL u = u.take 31 ++ [u.getD 31 0 &&& 127] := by
  have lt : (u.take 31).length = 31 := by rw [List.length_take]; omega
  have e : u = lastL u (u.getD 31 0) := by
    unfold lastL
    apply List.ext_getElem?
    intro i
    by_cases i31 : i < 31
    · rw [List.getElem?_append_left (by omega), List.getElem?_take, if_pos i31]
    · by_cases e : i = 31
      · subst e
        rw [List.getElem?_append_right (by omega), lt, List.getD_eq_getElem?_getD, List.getElem?_eq_getElem (show 31 < u.length by omega)]
        rfl
      · rw [List.getElem?_eq_none (by omega), List.getElem?_eq_none (by rw [List.length_append, lt]; show 31 + 1 ≤ i; omega)]
  conv => lhs; rw [e]
  exact maskL_last u hu _
theorem mult_flipped (k u : List UInt8) (hu : u.length = 32) : multL k (lastL u (u.getD 31 0 ^^^ 128)) = multL k u := by
  unfold multL
  rw [maskL_last u hu, flip127, maskL_eq u hu]

/-- The ladder hangs on what its number leaves alone. -/
structure Lik (s t : Lad) : Prop where
  sw : s.sw = t.sw
  x2 : s.x2 % PP = t.x2 % PP
  z2 : s.z2 % PP = t.z2 % PP
  x3 : s.x3 % PP = t.x3 % PP
  z3 : s.z3 % PP = t.z3 % PP
theorem addP_lik {x y x' y' : Nat} (h : x % PP = x' % PP) (k : y % PP = y' % PP) : addP x y = addP x' y' := by unfold addP; rw [Nat.add_mod, h, k, ← Nat.add_mod]
theorem subP_lik {x y x' y' : Nat} (h : x % PP = x' % PP) (k : y % PP = y' % PP) : subP x y = subP x' y' := by unfold subP; rw [k, Nat.add_mod, h, ← Nat.add_mod]
theorem mulP_lik {x y x' y' : Nat} (h : x % PP = x' % PP) (k : y % PP = y' % PP) : mulP x y = mulP x' y' := by unfold mulP; rw [Nat.mul_mod, h, k, ← Nat.mul_mod]
theorem turn_lik {s t : Lad} (h : Lik s t) (b : Nat) : Lik (s.turn b) (t.turn b) := by
  unfold Lad.turn
  rw [h.sw]
  split
  · exact h
  · exact ⟨rfl, h.x3, h.z3, h.x2, h.z2⟩
theorem step_lik {s t : Lad} (h : Lik s t) {x x' : Nat} (hx : x % PP = x' % PP) : Lik (s.step x) (t.step x') := by
  have a := addP_lik h.x2 h.z2
  have b := subP_lik h.x2 h.z2
  have c := addP_lik h.x3 h.z3
  have d := subP_lik h.x3 h.z3
  refine ⟨h.sw, ?_, ?_, ?_, ?_⟩
  · simp only [Lad.step, ladX2, a, b]
  · simp only [Lad.step, ladZ2, ladE, a, b]
  · simp only [Lad.step, ladX3, ladDA, ladCB, a, b, c, d]
  · simp only [Lad.step, ladZ3, ladDA, ladCB, a, b, c, d]
    rw [mulP_lik hx rfl]
theorem ladS_lik (k : Nat) {x x' : Nat} (hx : x % PP = x' % PP) : ∀ i, Lik (ladS k x i) (ladS k x' i)
  | 0 => ⟨rfl, rfl, rfl, hx, rfl⟩
  | i + 1 => step_lik (turn_lik (ladS_lik k hx i) _) hx
theorem ladN_lik (k : Nat) {x x' : Nat} (hx : x % PP = x' % PP) : ladN k x = ladN k x' := by
  have h := ladS_lik k hx 255
  unfold ladN ladOut
  rw [h.sw]
  split
  · exact mulP_lik h.x3 (by rw [Nat.pow_mod, h.z3, ← Nat.pow_mod])
  · exact mulP_lik h.x2 (by rw [Nat.pow_mod, h.z2, ← Nat.pow_mod])

theorem leB_last (n : Nat) (hn : n < 2 ^ 255) : maskL (leB n 32) = leB n 32 := by
  have e : leB n 32 = leB n 31 ++ [UInt8.ofNat (n / 256 ^ 31)] := leB_snoc n 31
  have l31 : (leB n 31).length = 31 := leB_length n 31
  have hs : n / 256 ^ 31 < 128 := by
    apply Nat.div_lt_of_lt_mul
    have : (256 : Nat) ^ 31 * 128 = 2 ^ 255 := by decide +kernel
    omega
  have hc : UInt8.ofNat (n / 256 ^ 31) &&& 127 = UInt8.ofNat (n / 256 ^ 31) := by
    generalize n / 256 ^ 31 = q at *
    exact small127 _ (by rw [UInt8.toNat_ofNat']; omega)
  rw [maskL_eq _ (leB_length n 32)]
  have h1 : (leB n 32).take 31 = leB n 31 := by rw [e]; exact List.take_left' l31
  have h2 : (leB n 32).getD 31 0 = UInt8.ofNat (n / 256 ^ 31) := by
    rw [e, List.getD_eq_getElem?_getD, List.getElem?_append_right (by rw [l31]; exact Nat.le_refl _), l31]
    rfl
  rw [h1, h2, hc, ← e]

theorem red_least (n : Nat) : leN (maskL (leB (n % PP) 32)) % PP = n % PP := by
  have hp : PP < 2 ^ 255 := by rw [PP_eq]; decide +kernel
  have h2 : (2 : Nat) ^ 255 < 256 ^ 32 := by decide +kernel
  have hlt := Nat.mod_lt n PP_pos
  generalize PP = p at *
  have h3 : n % p < 256 ^ 32 := Nat.lt_trans (Nat.lt_trans hlt hp) h2
  rw [leB_last _ (Nat.lt_trans hlt hp), leN_leB, Nat.mod_eq_of_lt h3, Nat.mod_mod]
theorem mult_least (k u : List UInt8) : multL k (leB (leN (maskL u) % PP) 32) = multL k u := by
  have key := ladN_lik (leN (clampL k)) (red_least (leN (maskL u)))
  unfold multL
  rw [key]

/-- A power by squares. -/
def sqP : Nat → Nat → Nat → Nat
  | 0, _, _ => 1
  | f + 1, z, n => if n = 0 then 1 else if n % 2 = 1 then mulP z (sqP f (mulP z z) (n / 2)) else sqP f (mulP z z) (n / 2)
theorem sqP_eq : ∀ (f z n : Nat), n < 2 ^ f → sqP f z n % PP = z ^ n % PP
  | 0, z, n, h => by
    have : n = 0 := by simpa using h
    subst this
    rfl
  | f + 1, z, n, h => by
    rw [sqP]
    by_cases h0 : n = 0
    · rw [if_pos h0, h0]
      rfl
    · rw [if_neg h0]
      have ih := sqP_eq f (mulP z z) (n / 2) (by rw [Nat.pow_succ] at h; omega)
      have e2 : (mulP z z) ^ (n / 2) % PP = z ^ (2 * (n / 2)) % PP := by
        unfold mulP
        rw [← Nat.pow_mod, Nat.pow_mul, Nat.pow_two]
      by_cases h1 : n % 2 = 1
      · rw [if_pos h1]
        unfold mulP at ih e2 ⊢
        rw [Nat.mod_mod, Nat.mul_mod, ih, e2, ← Nat.mul_mod]
        have : n = 1 + 2 * (n / 2) := by omega
        conv => rhs; rw [this, Nat.pow_add, Nat.pow_one]
      · rw [if_neg h1, ih, e2]
        have : n = 2 * (n / 2) := by omega
        conv => rhs; rw [this]
theorem ladOut_eq (s : Lad) : ladOut s = if s.sw = 1 then mulP s.x3 (sqP 255 s.z3 (PP - 2)) else mulP s.x2 (sqP 255 s.z2 (PP - 2)) := by
  have hp : PP - 2 < 2 ^ 255 := by rw [PP_eq]; decide +kernel
  unfold ladOut
  split
  · exact mulP_lik rfl (sqP_eq _ _ _ hp).symm
  · exact mulP_lik rfl (sqP_eq _ _ _ hp).symm

def cvK : List UInt8 := [165, 70, 227, 107, 240, 82, 124, 157, 59, 22, 21, 75, 130, 70, 94, 221, 98, 20, 76, 10, 193, 252, 90, 24, 80, 106, 34, 68, 186, 68, 154, 196]
def cvU : List UInt8 := [230, 219, 104, 103, 88, 48, 48, 219, 53, 148, 193, 164, 36, 177, 95, 124, 114, 102, 36, 236, 38, 179, 53, 59, 16, 169, 3, 166, 208, 171, 28, 76]
def cvR : List UInt8 := [195, 218, 85, 55, 157, 233, 198, 144, 142, 148, 234, 77, 242, 141, 8, 79, 50, 236, 207, 3, 73, 28, 113, 247, 84, 180, 7, 85, 119, 162, 133, 82]

end Go.Proofs.YtmceahknglkhoaaDoor
