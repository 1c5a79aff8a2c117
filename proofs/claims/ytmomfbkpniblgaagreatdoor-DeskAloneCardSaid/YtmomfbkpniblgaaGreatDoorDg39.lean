/-
  Several texts of this claim in one: Curve, CurvePlain, CurvePublic, CurveLow, CurveShare, CurveShareN, CurveErr.
-/
import Derived.Test.YtmomfbkpniblgaaGreatDoorDgLadder
import Derived.Test.YtmomfbkpniblgaaGreatDoorDg07
import Derived.Test.YtmomfbkpniblgaaGreatDoorDg13
import Derived.Test.YtmomfbkpniblgaaGreatDoorDg31
namespace Go.Proofs.YtmomfbkpniblgaaGreatDoor
open Go.RowKit
set_option linter.unusedVariables false

def clampL (k : List UInt8) : List UInt8 := (k.set 0 (k.getD 0 0 &&& 248)).set 31 (k.getD 31 0 &&& 127 ||| 64)
def maskL (u : List UInt8) : List UInt8 := u.set 31 (u.getD 31 0 &&& 127)
/-- A multiple. -/
def multL (k u : List UInt8) : List UInt8 := leB (ladN (leN (clampL k)) (leN (maskL u)) % PP) 32
theorem clampL_length (k : List UInt8) : (clampL k).length = k.length := by simp [clampL]
theorem maskL_length (u : List UInt8) : (maskL u).length = u.length := by simp [maskL]
theorem multL_length (k u : List UInt8) : (multL k u).length = 32 := leB_length _ _

theorem u8_and (c : UInt8) (N : Int) (m : UInt8) (hm : N = (m.toNat : Int)) : bits .and .u8 (c.toNat : Int) N = ((c &&& m).toNat : Int) := by
  subst hm
  rw [UInt8.toNat_and]
  exact u8_and_nat _ _ (u8_lt c) (u8_lt m)
theorem u8_or (c : UInt8) (N : Int) (m : UInt8) (hm : N = (m.toNat : Int)) : bits .or .u8 (c.toNat : Int) N = ((c ||| m).toNat : Int) := by
  subst hm
  rw [UInt8.toNat_or]
  exact u8_or_nat _ _ (u8_lt c) (u8_lt m)

set_option maxHeartbeats 1000000 in
theorem code_clamp (w : World) (k : List UInt8) (hk : k.length = 32) : Calls Tryz.prog 107 #[S k] w (Grown (.tuple #[S (clampL k), .int .i64 0]) w) := by
  obtain ⟨cap, x, hcv, hcap, hg, hlt, hb⟩ := to_bytes w k (by omega)
  obtain ⟨B, hB⟩ : ∃ B, B = w.heap.size := ⟨_, rfl⟩
  rw [← hB] at hcv hb hlt
  have h0 := hb.cell 0 (by omega)
  have f0 := hb.frozen 0 (by omega)
  have hV : clampL k = (k.set 0 (k[0] &&& 248)).set 31 (k[31] &&& 127 ||| 64) := by
    unfold clampL
    rw [List.getD_eq_getElem?_getD, List.getElem?_eq_getElem (by omega), List.getD_eq_getElem?_getD, List.getElem?_eq_getElem (by omega)]
    rfl
  have b1 := hb.set 0 (k[0] &&& 248) (by omega)
  have h31 := b1.cell 31 (by rw [List.length_set]; omega)
  have f31 := b1.frozen 31 (by rw [List.length_set]; omega)
  rw [List.getElem_set_ne (by omega)] at h31
  have b2 := b1.set 31 (k[31] &&& 127 ||| 64) (by rw [List.length_set]; omega)
  rw [← hV] at b2
  have hc2 := conv_bys b2 cap
  rw [clampL_length] at hc2
  have a1 := u8_and k[0] 248 248 rfl
  have a2 := u8_and k[31] 127 127 rfl
  have a3 := u8_or (k[31] &&& 127) 64 64 rfl
  have hgf : w.grownBy ((x.setCell ⟨B, 0, none⟩ (.int .u8 ((k[0] &&& 248).toNat : Int))).setCell ⟨B, 31, none⟩ (.int .u8 ((k[31] &&& 127 ||| 64).toNat : Int))) none := grow_setCell_new (grow_setCell_new hg _ (by rw [hB]; exact Nat.le_refl _) _) _ (by rw [hB]; exact Nat.le_refl _) _
  have HG := Lib.hid hgf
  have q : ((k.length : Int) != 32) = false := by rw [hk]; rfl
  clear hV b1 b2 hgf hb hg hB
  generalize clampL k = V at *
  generalize k[0] = c at *
  generalize k[31] = d at *
  rw [hk] at hcv hc2 hcap
  generalize c &&& 248 = c' at *
  generalize d &&& 127 = d1 at *
  generalize d1 ||| 64 = d2 at *
  unfold S
  go_enter Tryz.func107, Tryz.ntmps107
  go_wp2_with fail
  go_ret2
  exact ⟨rfl, HG.out⟩

set_option maxHeartbeats 1000000 in
theorem code_cmult (w : World) (k u : List UInt8) (hk : k.length = 32) (hu : u.length = 32) : Calls Tryz.prog 61 #[S k, S u] w (Grown (.tuple #[S (multL k u), .int .i64 0]) w) := by
  have AC := fun W : World => code_clamp W k hk
  have AL : ∀ W : World, Calls Tryz.prog 108 #[S (clampL k), S (maskL u)] W (Grown (S (multL k u)) W) := fun W => code_ladder W (clampL k) (maskL u) (by rw [clampL_length, hk]) (by rw [maskL_length, hu])
  generalize multL k u = R at *
  generalize clampL k = K at *
  have q : ((u.length : Int) != 32) = false := by rw [hu]; rfl
  have HA := Lib.hid (fun W : World => to_bytes W u (by omega))
  have hV : maskL u = u.set 31 (u[31] &&& 127) := by
    unfold maskL
    rw [List.getD_eq_getElem?_getD, List.getElem?_eq_getElem (by omega)]
    rfl
  have HVV := Lib.hid hV
  have HU := Lib.hid hu
  have lm := maskL_length u
  have a2 := u8_and u[31] 127 127 rfl
  have HLM := Lib.hid lm
  clear hV lm
  unfold S at *
  go_enter Tryz.func61, Tryz.ntmps61
  go_wp2_with fail
  (with_reducible refine (AC _).mono ?_)
  rintro e x1 ⟨rfl, hg1⟩
  obtain ⟨cap, x, hcv, hcap, hg, hlt, hb⟩ := HA.out x1
  obtain ⟨B, hB⟩ : ∃ B, B = x1.heap.size := ⟨_, rfl⟩
  rw [← hB] at hcv hb hlt
  have h31 := hb.cell 31 (by have := HU.out; omega)
  have f31 := hb.frozen 31 (by have := HU.out; omega)
  have b1 := hb.set 31 (u[31] &&& 127) (by have := HU.out; omega)
  rw [← HVV.out] at b1
  have hc2 := conv_bys b1 cap
  rw [HLM.out] at hc2
  have hgf : w.grownBy (x.setCell ⟨B, 31, none⟩ (.int .u8 ((u[31] &&& 127).toNat : Int))) none := grow_setCell_new (grow_trans hg1 hg) _ (by rw [hB]; exact hg1.size) _
  have HG := Lib.hid hgf
  clear b1 hgf hb hg hg1 HVV HLM HA AC hB
  generalize maskL u = V at *
  generalize u[31] = d at *
  generalize d &&& 127 = d1 at *
  rw [hu] at hcv hc2 hcap
  go_wp2_with fail
  (with_reducible refine (AL _).mono ?_)
  rintro e x3 ⟨rfl, hg3⟩
  go_wp2_with fail
  go_ret2
  exact ⟨rfl, grow_trans HG.out hg3⟩

end Go.Proofs.YtmomfbkpniblgaaGreatDoor

namespace Go.Proofs.YtmomfbkpniblgaaGreatDoor
set_option linter.unusedVariables false

theorem and248 (c : UInt8) : c &&& 248 &&& 248 = c &&& 248 := by
  have : ∀ n : Fin 256, UInt8.ofNat n.val &&& 248 &&& 248 = UInt8.ofNat n.val &&& 248 := by decide +kernel
  have h := this ⟨c.toNat, c.toNat_lt⟩
  simpa using h
theorem top64 (c : UInt8) : (c &&& 127 ||| 64) &&& 127 ||| 64 = c &&& 127 ||| 64 := by
  have : ∀ n : Fin 256, (UInt8.ofNat n.val &&& 127 ||| 64) &&& 127 ||| 64 = UInt8.ofNat n.val &&& 127 ||| 64 := by decide +kernel
  have h := this ⟨c.toNat, c.toNat_lt⟩
  simpa using h
theorem flip127 (c : UInt8) : (c ^^^ 128) &&& 127 = c &&& 127 := by
  have : ∀ n : Fin 256, (UInt8.ofNat n.val ^^^ 128) &&& 127 = UInt8.ofNat n.val &&& 127 := by decide +kernel
  have h := this ⟨c.toNat, c.toNat_lt⟩
  simpa using h
theorem and127 (c : UInt8) : c &&& 127 &&& 127 = c &&& 127 := by
  have : ∀ n : Fin 256, UInt8.ofNat n.val &&& 127 &&& 127 = UInt8.ofNat n.val &&& 127 := by decide +kernel
  have h := this ⟨c.toNat, c.toNat_lt⟩
  simpa using h
theorem small127 (c : UInt8) (h : c.toNat < 128) : c &&& 127 = c := by
  have : ∀ n : Fin 256, n.val < 128 → UInt8.ofNat n.val &&& 127 = UInt8.ofNat n.val := by decide +kernel
  have h := this ⟨c.toNat, c.toNat_lt⟩ h
  simpa using h

theorem clampL_twice (k : List UInt8) (hk : k.length = 32) : clampL (clampL k) = clampL k := by
  have h0 : (clampL k).getD 0 0 = k.getD 0 0 &&& 248 := by
    unfold clampL
    rw [List.getD_eq_getElem?_getD, List.getElem?_set_ne (by omega), List.getElem?_set_self (by omega)]
    rfl
  have h31 : (clampL k).getD 31 0 = k.getD 31 0 &&& 127 ||| 64 := by
    unfold clampL
    rw [List.getD_eq_getElem?_getD, List.getElem?_set_self (by rw [List.length_set]; omega)]
    rfl
  have e : clampL (clampL k) = ((clampL k).set 0 ((clampL k).getD 0 0 &&& 248)).set 31 ((clampL k).getD 31 0 &&& 127 ||| 64) := rfl
  rw [e, h0, h31, and248, top64]
  unfold clampL
  apply List.ext_getElem?
  intro i
  by_cases i31 : i = 31
  · subst i31
    rw [List.getElem?_set_self (by simp; omega), List.getElem?_set_self (by simp; omega)]
  · rw [List.getElem?_set_ne (fun e => i31 e.symm)]
    by_cases i0 : i = 0
    · subst i0
      rw [List.getElem?_set_self (by simp; omega), List.getElem?_set_ne (by omega), List.getElem?_set_self (by omega)]
    · rw [List.getElem?_set_ne (fun e => i0 e.symm)]

theorem mult_clamped (k u : List UInt8) (hk : k.length = 32) : multL (clampL k) u = multL k u := by
  unfold multL
  rw [clampL_twice k hk]

/-- A text whose last byte is another one. -/
def lastL (u : List UInt8) (c : UInt8) : List UInt8 := u.take 31 ++ [c]
theorem maskL_last (u : List UInt8) (hu : u.length = 32) (c : UInt8) : maskL (lastL u c) = u.take 31 ++ [c &&& 127] := by
  have lt : (u.take 31).length = 31 := by rw [List.length_take]; omega
  unfold maskL lastL
  rw [List.set_append_right _ _ (by omega), lt]
  have : (u.take 31 ++ [c]).getD 31 0 = c := by
    rw [List.getD_eq_getElem?_getD, List.getElem?_append_right (by omega), lt]
    rfl
  rw [this]
  rfl
theorem maskL_eq (u : List UInt8) (hu : u.length = 32) : maskL u = u.take 31 ++ [u.getD 31 0 &&& 127] := by
  have lt : (u.take 31).length = 31 := by rw [List.length_take]; omega
  have e : u = lastL u (u.getD 31 0) := by
    unfold lastL
    apply List.ext_getElem?
    intro i
    by_cases i31 : i < 31
    · rw [List.getElem?_append_left (by omega), List.getElem?_take, if_pos i31]
    · by_cases e : i = 31
      · subst e
        rw [List.getElem?_append_right (by omega), lt, List.getD_eq_getElem?_getD, List.getElem?_eq_getElem (show 31 < u.length by omega)]
        rfl
      · rw [List.getElem?_eq_none (by omega), List.getElem?_eq_none (by rw [List.length_append, lt]; show 31 + 1 ≤ i; omega)]
  conv => lhs; rw [e]
  exact maskL_last u hu _
theorem mult_flipped (k u : List UInt8) (hu : u.length = 32) : multL k (lastL u (u.getD 31 0 ^^^ 128)) = multL k u := by
  unfold multL
  rw [maskL_last u hu, flip127, maskL_eq u hu]

/-- The ladder hangs on what its number leaves alone. -/
structure Lik (s t : Lad) : Prop where
  sw : s.sw = t.sw
  x2 : s.x2 % PP = t.x2 % PP
  z2 : s.z2 % PP = t.z2 % PP
  x3 : s.x3 % PP = t.x3 % PP
  z3 : s.z3 % PP = t.z3 % PP
theorem addP_lik {x y x' y' : Nat} (h : x % PP = x' % PP) (k : y % PP = y' % PP) : addP x y = addP x' y' := by unfold addP; rw [Nat.add_mod, h, k, ← Nat.add_mod]
theorem subP_lik {x y x' y' : Nat} (h : x % PP = x' % PP) (k : y % PP = y' % PP) : subP x y = subP x' y' := by unfold subP; rw [k, Nat.add_mod, h, ← Nat.add_mod]
theorem mulP_lik {x y x' y' : Nat} (h : x % PP = x' % PP) (k : y % PP = y' % PP) : mulP x y = mulP x' y' := by unfold mulP; rw [Nat.mul_mod, h, k, ← Nat.mul_mod]
theorem turn_lik {s t : Lad} (h : Lik s t) (b : Nat) : Lik (s.turn b) (t.turn b) := by
  unfold Lad.turn
  rw [h.sw]
  split
  · exact h
  · exact ⟨rfl, h.x3, h.z3, h.x2, h.z2⟩
theorem step_lik {s t : Lad} (h : Lik s t) {x x' : Nat} (hx : x % PP = x' % PP) : Lik (s.step x) (t.step x') := by
  have a := addP_lik h.x2 h.z2
  have b := subP_lik h.x2 h.z2
  have c := addP_lik h.x3 h.z3
  have d := subP_lik h.x3 h.z3
  refine ⟨h.sw, ?_, ?_, ?_, ?_⟩
  · simp only [Lad.step, ladX2, a, b]
  · simp only [Lad.step, ladZ2, ladE, a, b]
  · simp only [Lad.step, ladX3, ladDA, ladCB, a, b, c, d]
  · simp only [Lad.step, ladZ3, ladDA, ladCB, a, b, c, d]
    rw [mulP_lik hx rfl]
theorem ladS_lik (k : Nat) {x x' : Nat} (hx : x % PP = x' % PP) : ∀ i, Lik (ladS k x i) (ladS k x' i)
  | 0 => ⟨rfl, rfl, rfl, hx, rfl⟩
  | i + 1 => step_lik (turn_lik (ladS_lik k hx i) _) hx
theorem ladN_lik (k : Nat) {x x' : Nat} (hx : x % PP = x' % PP) : ladN k x = ladN k x' := by
  have h := ladS_lik k hx 255
  unfold ladN ladOut
  rw [h.sw]
  split
  · exact mulP_lik h.x3 (by rw [Nat.pow_mod, h.z3, ← Nat.pow_mod])
  · exact mulP_lik h.x2 (by rw [Nat.pow_mod, h.z2, ← Nat.pow_mod])

theorem leB_last (n : Nat) (hn : n < 2 ^ 255) : maskL (leB n 32) = leB n 32 := by
  have e : leB n 32 = leB n 31 ++ [UInt8.ofNat (n / 256 ^ 31)] := leB_snoc n 31
  have l31 : (leB n 31).length = 31 := leB_length n 31
  have hs : n / 256 ^ 31 < 128 := by
    apply Nat.div_lt_of_lt_mul
    have : (256 : Nat) ^ 31 * 128 = 2 ^ 255 := by decide +kernel
    omega
  have hc : UInt8.ofNat (n / 256 ^ 31) &&& 127 = UInt8.ofNat (n / 256 ^ 31) := by
    generalize n / 256 ^ 31 = q at *
    exact small127 _ (by rw [UInt8.toNat_ofNat']; omega)
  rw [maskL_eq _ (leB_length n 32)]
  have h1 : (leB n 32).take 31 = leB n 31 := by rw [e]; exact List.take_left' l31
  have h2 : (leB n 32).getD 31 0 = UInt8.ofNat (n / 256 ^ 31) := by
    rw [e, List.getD_eq_getElem?_getD, List.getElem?_append_right (by rw [l31]; exact Nat.le_refl _), l31]
    rfl
  rw [h1, h2, hc, ← e]

theorem red_least (n : Nat) : leN (maskL (leB (n % PP) 32)) % PP = n % PP := by
  have hp : PP < 2 ^ 255 := by rw [PP_eq]; decide +kernel
  have h2 : (2 : Nat) ^ 255 < 256 ^ 32 := by decide +kernel
  have hlt := Nat.mod_lt n PP_pos
  generalize PP = p at *
  have h3 : n % p < 256 ^ 32 := Nat.lt_trans (Nat.lt_trans hlt hp) h2
  rw [leB_last _ (Nat.lt_trans hlt hp), leN_leB, Nat.mod_eq_of_lt h3, Nat.mod_mod]
theorem mult_least (k u : List UInt8) : multL k (leB (leN (maskL u) % PP) 32) = multL k u := by
  have key := ladN_lik (leN (clampL k)) (red_least (leN (maskL u)))
  unfold multL
  rw [key]

/-- A power by squares. -/
def sqP : Nat → Nat → Nat → Nat
  | 0, _, _ => 1
  | f + 1, z, n => if n = 0 then 1 else if n % 2 = 1 then mulP z (sqP f (mulP z z) (n / 2)) else sqP f (mulP z z) (n / 2)
theorem sqP_eq : ∀ (f z n : Nat), n < 2 ^ f → sqP f z n % PP = z ^ n % PP
  | 0, z, n, h => by
    have : n = 0 := by simpa using h
    subst this
    rfl
  | f + 1, z, n, h => by
    rw [sqP]
    by_cases h0 : n = 0
    · rw [if_pos h0, h0]
      rfl
    · rw [if_neg h0]
      have ih := sqP_eq f (mulP z z) (n / 2) (by rw [Nat.pow_succ] at h; omega)
      have e2 : (mulP z z) ^ (n / 2) % PP = z ^ (2 * (n / 2)) % PP := by
        unfold mulP
        rw [← Nat.pow_mod, Nat.pow_mul, Nat.pow_two]
      by_cases h1 : n % 2 = 1
      · rw [if_pos h1]
        unfold mulP at ih e2 ⊢
        rw [Nat.mod_mod, Nat.mul_mod, ih, e2, ← Nat.mul_mod]
        have : n = 1 + 2 * (n / 2) := by omega
        conv => rhs; rw [this, Nat.pow_add, Nat.pow_one]
      · rw [if_neg h1, ih, e2]
        have : n = 2 * (n / 2) := by omega
        conv => rhs; rw [this]
theorem ladOut_eq (s : Lad) : ladOut s = if s.sw = 1 then mulP s.x3 (sqP 255 s.z3 (PP - 2)) else mulP s.x2 (sqP 255 s.z2 (PP - 2)) := by
  have hp : PP - 2 < 2 ^ 255 := by rw [PP_eq]; decide +kernel
  unfold ladOut
  split
  · exact mulP_lik rfl (sqP_eq _ _ _ hp).symm
  · exact mulP_lik rfl (sqP_eq _ _ _ hp).symm

def cvK : List UInt8 := [165, 70, 227, 107, 240, 82, 124, 157, 59, 22, 21, 75, 130, 70, 94, 221, 98, 20, 76, 10, 193, 252, 90, 24, 80, 106, 34, 68, 186, 68, 154, 196]
def cvU : List UInt8 := [230, 219, 104, 103, 88, 48, 48, 219, 53, 148, 193, 164, 36, 177, 95, 124, 114, 102, 36, 236, 38, 179, 53, 59, 16, 169, 3, 166, 208, 171, 28, 76]
def cvR : List UInt8 := [195, 218, 85, 55, 157, 233, 198, 144, 142, 148, 234, 77, 242, 141, 8, 79, 50, 236, 207, 3, 73, 28, 113, 247, 84, 180, 7, 85, 119, 162, 133, 82]

end Go.Proofs.YtmomfbkpniblgaaGreatDoor

namespace Go.Proofs.YtmomfbkpniblgaaGreatDoor
open Go.RowKit
set_option linter.unusedVariables false

def nineL : List UInt8 := 9 :: List.replicate 31 0
theorem nine_app : [9] ++ zerosL 31 = nineL := rfl

set_option maxHeartbeats 1000000 in
theorem code_cpublic (w : World) (k : List UInt8) (hk : k.length = 32) : Calls Tryz.prog 38 #[S k] w (Grown (.tuple #[S (multL k nineL), .int .i64 0]) w) := by
  have AR : ∀ W : World, Calls Tryz.prog 62 #[.string ⟨#[0]⟩, .int .i64 31] W (Grown (S (zerosL 31)) W) := fun W => repeat_zero W 31 (by omega)
  have AM : ∀ W : World, Calls Tryz.prog 61 #[S k, S (9 :: zerosL 31)] W (Grown (.tuple #[S (multL k nineL), .int .i64 0]) W) := fun W => code_cmult W k nineL hk (by decide)
  have r1 := rule_app
  have r3 : ∀ (a : List UInt8), ByteArray.mk #[9] ++ ByteArray.mk a.toArray = ⟨([9] ++ a).toArray⟩ := fun a => rule_app [9] a
  have lz : (zerosL 31).length = 31 := by decide
  generalize multL k nineL = V at *
  generalize zerosL 31 = Z at *
  have k1 : 1 + Z.length ≤ 9223372036854775807 := by omega
  have k2 : ¬ (9223372036854775807 < 1 + Z.length) := by omega
  unfold S at *
  go_enter Tryz.func38, Tryz.ntmps38
  go_wp2_with fail
  (with_reducible refine (AR _).mono ?_)
  rintro e x1 ⟨rfl, hg1⟩
  go_wp2_with fail
  (with_reducible refine (AM _).mono ?_)
  rintro e x2 ⟨rfl, hg2⟩
  go_wp2_with fail
  go_ret2
  exact ⟨rfl, grow_trans hg1 hg2⟩

end Go.Proofs.YtmomfbkpniblgaaGreatDoor

namespace Go.Proofs.YtmomfbkpniblgaaGreatDoor
set_option linter.unusedVariables false

/-- A pair that is a multiple of another one. -/
def Scl (x z p q : Nat) : Prop := ∃ s : Fin PP, fi x = s * fi p ∧ fi z = s * fi q
theorem fi_nmul (x y : Nat) : fi (x * y) = fi x * fi y := by
  apply Fin.ext
  rw [Fin.val_mul, fi_val, fi_val, fi_val, ← Nat.mul_mod]
theorem Scl.dbl {x z p q p' q' l : Nat} (h : Scl x z p q) (h1 : ladX2 p q % PP = (l * p') % PP) (h2 : ladZ2 p q % PP = (l * q') % PP) : Scl (ladX2 x z) (ladZ2 x z) p' q' := by
  obtain ⟨s, e1, e2⟩ := h
  refine ⟨s * s * (s * s) * fi l, ?_, ?_⟩
  · rw [fi_X2, e1, e2, rX_sc, ← fi_X2, fi_eq.2 h1, fi_nmul]; simp only [Fin.mul_assoc]
  · rw [fi_Z2, e1, e2, rZ_sc, ← fi_Z2, fi_eq.2 h2, fi_nmul]; simp only [Fin.mul_assoc]
theorem Scl.add {u x z x' z' p q p' q' P Q l : Nat} (h : Scl x z p q) (h' : Scl x' z' p' q') (h1 : ladX3 p q p' q' % PP = (l * P) % PP) (h2 : ladZ3 u p q p' q' % PP = (l * Q) % PP) : Scl (ladX3 x z x' z') (ladZ3 u x z x' z') P Q := by
  obtain ⟨s, e1, e2⟩ := h
  obtain ⟨t, e3, e4⟩ := h'
  refine ⟨s * t * (s * t) * fi l, ?_, ?_⟩
  · rw [fi_X3, e1, e2, e3, e4, rX3_sc, ← fi_X3, fi_eq.2 h1, fi_nmul]; simp only [Fin.mul_assoc]
  · rw [fi_Z3, e1, e2, e3, e4, rZ3_sc, ← fi_Z3, fi_eq.2 h2, fi_nmul]; simp only [Fin.mul_assoc]

/-- A class of states; where each bit leads. -/
structure Cls where
  sw : Nat
  p2 : Nat
  q2 : Nat
  p3 : Nat
  q3 : Nat
  t0 : Nat
  l0 : Nat
  m0 : Nat
  t1 : Nat
  l1 : Nat
  m1 : Nat
structure Mat (s : Lad) (c : Cls) : Prop where
  sw : s.sw = c.sw
  two : Scl s.x2 s.z2 c.p2 c.q2
  three : Scl s.x3 s.z3 c.p3 c.q3
/-- Does a step lead there? -/
def okS (u b p q p' q' l m : Nat) (d : Cls) : Bool := d.sw == b && ladX2 p q % PP == (l * d.p2) % PP && ladZ2 p q % PP == (l * d.q2) % PP && ladX3 p q p' q' % PP == (m * d.p3) % PP && ladZ3 u p q p' q' % PP == (m * d.q3) % PP
def okC (u : Nat) (T : List Cls) (c : Cls) : Bool :=
  (match T[c.t0]? with
   | some d => if c.sw = 0 then okS u 0 c.p2 c.q2 c.p3 c.q3 c.l0 c.m0 d else okS u 0 c.p3 c.q3 c.p2 c.q2 c.l0 c.m0 d
   | none => false) &&
  (match T[c.t1]? with
   | some d => if c.sw = 1 then okS u 1 c.p2 c.q2 c.p3 c.q3 c.l1 c.m1 d else okS u 1 c.p3 c.q3 c.p2 c.q2 c.l1 c.m1 d
   | none => false)
def okT (u : Nat) (T : List Cls) : Bool := T.all (okC u T)
theorem okS_mat {u b p q p' q' l m : Nat} {d : Cls} (h : okS u b p q p' q' l m d = true) {s : Lad} (hs : s.sw = b) (h2 : Scl s.x2 s.z2 p q) (h3 : Scl s.x3 s.z3 p' q') : Mat (s.step u) d := by
  unfold okS at h
  simp only [Bool.and_eq_true, beq_iff_eq] at h
  obtain ⟨⟨⟨⟨a, e1⟩, e2⟩, e3⟩, e4⟩ := h
  exact ⟨by rw [a]; exact hs, h2.dbl e1 e2, h2.add h3 e3 e4⟩
theorem step0 {u : Nat} {T : List Cls} (hT : okT u T = true) {c : Cls} (hc : c ∈ T) {s : Lad} (h : Mat s c) : ∃ d, T[c.t0]? = some d ∧ Mat ((s.turn 0).step u) d := by
  have hk := List.all_eq_true.1 hT c hc
  unfold okC at hk
  rw [Bool.and_eq_true] at hk
  have h0 := hk.1
  rcases e : T[c.t0]? with _ | d
  · rw [e] at h0; cases h0
  · rw [e] at h0
    refine ⟨d, rfl, ?_⟩
    unfold Lad.turn
    by_cases hs : c.sw = 0
    · simp only [if_pos hs] at h0
      rw [if_pos (by rw [h.sw, hs])]
      exact okS_mat h0 (by rw [h.sw, hs]) h.two h.three
    · simp only [if_neg hs] at h0
      rw [if_neg (by rw [h.sw]; exact fun e => hs e.symm)]
      exact okS_mat h0 rfl h.three h.two
theorem step1 {u : Nat} {T : List Cls} (hT : okT u T = true) {c : Cls} (hc : c ∈ T) {s : Lad} (h : Mat s c) : ∃ d, T[c.t1]? = some d ∧ Mat ((s.turn 1).step u) d := by
  have hk := List.all_eq_true.1 hT c hc
  unfold okC at hk
  rw [Bool.and_eq_true] at hk
  have h0 := hk.2
  rcases e : T[c.t1]? with _ | d
  · rw [e] at h0; cases h0
  · rw [e] at h0
    refine ⟨d, rfl, ?_⟩
    unfold Lad.turn
    by_cases hs : c.sw = 1
    · simp only [if_pos hs] at h0
      rw [if_pos (by rw [h.sw, hs])]
      exact okS_mat h0 (by rw [h.sw, hs]) h.two h.three
    · simp only [if_neg hs] at h0
      rw [if_neg (by rw [h.sw]; exact fun e => hs e.symm)]
      exact okS_mat h0 rfl h.three h.two
theorem run_cls {u : Nat} {T : List Cls} (hT : okT u T = true) {c0 : Cls} (h0 : T[0]? = some c0) (hc : c0.sw = 0 ∧ c0.p2 = 1 ∧ c0.q2 = 0 ∧ c0.p3 = u ∧ c0.q3 = 1) (k : Nat) : ∀ i, ∃ c ∈ T, Mat (ladS k u i) c
  | 0 => by
    obtain ⟨a, b, c, d, e⟩ := hc
    refine ⟨c0, List.mem_of_getElem? h0, a.symm, ⟨1, ?_, ?_⟩, ⟨1, ?_, ?_⟩⟩
    · rw [b, Fin.one_mul]; rfl
    · rw [c, Fin.one_mul]; rfl
    · rw [d, Fin.one_mul]; rfl
    · rw [e, Fin.one_mul]; rfl
  | i + 1 => by
    obtain ⟨c, hm, hs⟩ := run_cls hT h0 hc k i
    have hb : k / 2 ^ (254 - i) % 2 = 0 ∨ k / 2 ^ (254 - i) % 2 = 1 := by omega
    have e : ladS k u (i + 1) = ((ladS k u i).turn (k / 2 ^ (254 - i) % 2)).step u := rfl
    rw [e]
    rcases hb with hb | hb
    · rw [hb]
      obtain ⟨d, h1, h2⟩ := step0 hT hm hs
      exact ⟨d, List.mem_of_getElem? h1, h2⟩
    · rw [hb]
      obtain ⟨d, h1, h2⟩ := step1 hT hm hs
      exact ⟨d, List.mem_of_getElem? h1, h2⟩
/-- Three bits 0 lead to nought. -/
def okF (T : List Cls) (c : Cls) : Bool :=
  match T[c.t0]? with
  | some d => match T[d.t0]? with
    | some e => match T[e.t0]? with
      | some f => f.q2 == 0 && f.sw == 0
      | none => false
    | none => false
  | none => false
theorem ends_nought {u : Nat} {T : List Cls} (hT : okT u T = true) (hF : T.all (okF T) = true) {c0 : Cls} (h0 : T[0]? = some c0) (hc : c0.sw = 0 ∧ c0.p2 = 1 ∧ c0.q2 = 0 ∧ c0.p3 = u ∧ c0.q3 = 1) (k : Nat) (hk : k % 8 = 0) : ladN k u = 0 := by
  obtain ⟨c, hm, hs⟩ := run_cls hT h0 hc k 252
  have e1 : ladS k u 253 = ((ladS k u 252).turn 0).step u := by
    show ((ladS k u 252).turn (k / 2 ^ (254 - 252) % 2)).step u = _
    rw [show k / 2 ^ (254 - 252) % 2 = 0 from by omega]
  have e2 : ladS k u 254 = ((ladS k u 253).turn 0).step u := by
    show ((ladS k u 253).turn (k / 2 ^ (254 - 253) % 2)).step u = _
    rw [show k / 2 ^ (254 - 253) % 2 = 0 from by omega]
  have e3 : ladS k u 255 = ((ladS k u 254).turn 0).step u := by
    show ((ladS k u 254).turn (k / 2 ^ (254 - 254) % 2)).step u = _
    rw [show k / 2 ^ (254 - 254) % 2 = 0 from by omega]
  obtain ⟨d, d1, d2⟩ := step0 hT hm hs
  rw [← e1] at d2
  obtain ⟨e, f1, f2⟩ := step0 hT (List.mem_of_getElem? d1) d2
  rw [← e2] at f2
  obtain ⟨f, g1, g2⟩ := step0 hT (List.mem_of_getElem? f1) f2
  rw [← e3] at g2
  have hf := List.all_eq_true.1 hF c hm
  unfold okF at hf
  rw [d1] at hf
  simp only at hf
  rw [f1] at hf
  simp only at hf
  rw [g1] at hf
  simp only [Bool.and_eq_true, beq_iff_eq] at hf
  obtain ⟨s, _, hz⟩ := g2.two
  rw [hf.1] at hz
  have hz0 : (ladS k u 255).z2 % PP = 0 := by
    have h := congrArg Fin.val hz
    rw [fi_val, Fin.val_mul, fi_val, Nat.zero_mod, Nat.mul_zero, Nat.zero_mod] at h
    exact h
  have hsw : ¬ (ladS k u 255).sw = 1 := by rw [g2.sw, hf.2]; omega
  have hp : 2 < PP := by rw [PP_eq]; omega
  unfold ladN ladOut
  rw [if_neg hsw]
  unfold mulP
  rw [Nat.mul_mod, Nat.pow_mod, hz0, Nat.zero_pow (by omega), Nat.zero_mod, Nat.mul_zero, Nat.zero_mod]
theorem clamp_eight (key : List UInt8) (hk : key.length = 32) : leN (clampL key) % 8 = 0 := by
  have h0 : (clampL key)[0]? = some (key.getD 0 0 &&& 248) := by
    unfold clampL
    rw [List.getElem?_set_ne (by omega), List.getElem?_set_self (by omega)]
  have hl := clampL_length key
  rcases e : clampL key with _ | ⟨c, r⟩
  · rw [e] at hl; simp at hl; omega
  · rw [e] at h0
    have hc : c = key.getD 0 0 &&& 248 := by simpa using h0
    have h8 : c.toNat % 8 = 0 := by
      have : ∀ n : Fin 256, (UInt8.ofNat n.val &&& 248).toNat % 8 = 0 := by decide +kernel
      have h := this ⟨(key.getD 0 0).toNat, UInt8.toNat_lt _⟩
      rw [hc]
      simpa using h
    simp only [leN]
    omega
theorem low_mult (key u : List UInt8) (hk : key.length = 32) (x : Nat) (hx : leN (maskL u) = x) {T : List Cls} (hT : okT x T = true) (hF : T.all (okF T) = true) {c0 : Cls} (h0 : T[0]? = some c0) (hc : c0.sw = 0 ∧ c0.p2 = 1 ∧ c0.q2 = 0 ∧ c0.p3 = x ∧ c0.q3 = 1) : multL key u = leB 0 32 := by
  unfold multL
  rw [hx, ends_nought hT hF h0 hc _ (clamp_eight key hk), Nat.zero_mod]

def lowT0 : List Cls := [⟨0, 1, 0, 0, 1, 1, 1, 0, 2, 1, 0⟩,
  ⟨0, 1, 0, 0, 0, 1, 1, 0, 3, 0, 0⟩,
  ⟨1, 1, 0, 0, 0, 4, 0, 0, 2, 1, 0⟩,
  ⟨1, 0, 0, 0, 0, 4, 0, 0, 3, 0, 0⟩,
  ⟨0, 0, 0, 0, 0, 4, 0, 0, 3, 0, 0⟩]
theorem lowT0_ok : okT 0 lowT0 = true ∧ lowT0.all (okF lowT0) = true := by decide +kernel
def lowU0 : List UInt8 := [0, 0, 0, 0, 0, 0, 0, 0, 0, 0, 0, 0, 0, 0, 0, 0, 0, 0, 0, 0, 0, 0, 0, 0, 0, 0, 0, 0, 0, 0, 0, 0]
theorem low_mult0 (key : List UInt8) (hk : key.length = 32) : multL key lowU0 = leB 0 32 :=
  low_mult key lowU0 hk 0 (by decide +kernel) lowT0_ok.1 lowT0_ok.2 rfl ⟨rfl, rfl, rfl, rfl, rfl⟩
def lowT1 : List Cls := [⟨0, 1, 0, 1, 1, 0, 1, 4, 1, 1946656, 4⟩,
  ⟨1, 0, 1, 1, 1, 2, 1946656, 4, 3, 1, 4⟩,
  ⟨0, 0, 1, 1, 1, 0, 1, 4, 1, 1946656, 4⟩,
  ⟨1, 1, 0, 1, 1, 2, 1946656, 4, 3, 1, 4⟩]
theorem lowT1_ok : okT 1 lowT1 = true ∧ lowT1.all (okF lowT1) = true := by decide +kernel
def lowU1 : List UInt8 := [1, 0, 0, 0, 0, 0, 0, 0, 0, 0, 0, 0, 0, 0, 0, 0, 0, 0, 0, 0, 0, 0, 0, 0, 0, 0, 0, 0, 0, 0, 0, 0]
theorem low_mult1 (key : List UInt8) (hk : key.length = 32) : multL key lowU1 = leB 0 32 :=
  low_mult key lowU1 hk 1 (by decide +kernel) lowT1_ok.1 lowT1_ok.2 rfl ⟨rfl, rfl, rfl, rfl, rfl⟩
def lowT2 : List Cls := [⟨0, 1, 0, 57896044618658097711785492504343953926634992332820282019728792003956564819948, 1, 0, 1, 57896044618658097711785492504343953926634992332820282019728792003956564819945, 1, 1946640, 57896044618658097711785492504343953926634992332820282019728792003956564819945⟩,
  ⟨1, 0, 1, 57896044618658097711785492504343953926634992332820282019728792003956564819948, 1, 2, 1946640, 57896044618658097711785492504343953926634992332820282019728792003956564819945, 3, 1, 57896044618658097711785492504343953926634992332820282019728792003956564819945⟩,
  ⟨0, 0, 1, 57896044618658097711785492504343953926634992332820282019728792003956564819948, 1, 0, 1, 57896044618658097711785492504343953926634992332820282019728792003956564819945, 1, 1946640, 57896044618658097711785492504343953926634992332820282019728792003956564819945⟩,
  ⟨1, 1, 0, 57896044618658097711785492504343953926634992332820282019728792003956564819948, 1, 2, 1946640, 57896044618658097711785492504343953926634992332820282019728792003956564819945, 3, 1, 57896044618658097711785492504343953926634992332820282019728792003956564819945⟩]
theorem lowT2_ok : okT 57896044618658097711785492504343953926634992332820282019728792003956564819948 lowT2 = true ∧ lowT2.all (okF lowT2) = true := by decide +kernel
def lowU2 : List UInt8 := [236, 255, 255, 255, 255, 255, 255, 255, 255, 255, 255, 255, 255, 255, 255, 255, 255, 255, 255, 255, 255, 255, 255, 255, 255, 255, 255, 255, 255, 255, 255, 127]
theorem low_mult2 (key : List UInt8) (hk : key.length = 32) : multL key lowU2 = leB 0 32 :=
  low_mult key lowU2 hk 57896044618658097711785492504343953926634992332820282019728792003956564819948 (by decide +kernel) lowT2_ok.1 lowT2_ok.2 rfl ⟨rfl, rfl, rfl, rfl, rfl⟩
def lowT3 : List Cls := [⟨0, 1, 0, 325606250916557431795983626356110631294008115727848805560023387167927233504, 1, 0, 1, 1302425003666229727183934505424442525176032462911395222240093548671708934016, 1, 45396917006225111810827341870339786373668205820213556558545403612143054885807, 1302425003666229727183934505424442525176032462911395222240093548671708934016⟩,
  ⟨1, 1, 1, 325606250916557431795983626356110631294008115727848805560023387167927233504, 1, 2, 45396917006225111810827341870339786373668205820213556558545403612143054885807, 48761077026508114957042383884231568914342515009330145294212738689583669055707, 3, 1946656, 48761077026508114957042383884231568914342515009330145294212738689583669055707⟩,
  ⟨0, 1, 1, 39382357235489614581723060781553021112529911719440698176882885853963445705823, 1, 4, 1946656, 43039764708308492630505192622948619122025694675033623890314052956612362117402, 5, 24871845842723059791009793099485790699430777617945840999563689295137248234743, 43039764708308492630505192622948619122025694675033623890314052956612362117402⟩,
  ⟨1, 0, 1, 39382357235489614581723060781553021112529911719440698176882885853963445705823, 1, 6, 24871845842723059791009793099485790699430777617945840999563689295137248234743, 41737339704642262903321258117524176596849662212122228668073959407940653183394, 7, 1, 41737339704642262903321258117524176596849662212122228668073959407940653183394⟩,
  ⟨0, 0, 1, 39382357235489614581723060781553021112529911719440698176882885853963445705823, 1, 0, 1, 41737339704642262903321258117524176596849662212122228668073959407940653183394, 1, 24871845842723059791009793099485790699430777617945840999563689295137248234743, 41737339704642262903321258117524176596849662212122228668073959407940653183394⟩,
  ⟨1, 1, 1, 39382357235489614581723060781553021112529911719440698176882885853963445705823, 1, 2, 24871845842723059791009793099485790699430777617945840999563689295137248234743, 43039764708308492630505192622948619122025694675033623890314052956612362117402, 3, 1946656, 43039764708308492630505192622948619122025694675033623890314052956612362117402⟩,
  ⟨0, 1, 1, 325606250916557431795983626356110631294008115727848805560023387167927233504, 1, 4, 1946656, 48761077026508114957042383884231568914342515009330145294212738689583669055707, 5, 45396917006225111810827341870339786373668205820213556558545403612143054885807, 48761077026508114957042383884231568914342515009330145294212738689583669055707⟩,
  ⟨1, 1, 0, 325606250916557431795983626356110631294008115727848805560023387167927233504, 1, 6, 45396917006225111810827341870339786373668205820213556558545403612143054885807, 1302425003666229727183934505424442525176032462911395222240093548671708934016, 7, 1, 1302425003666229727183934505424442525176032462911395222240093548671708934016⟩]
theorem lowT3_ok : okT 325606250916557431795983626356110631294008115727848805560023387167927233504 lowT3 = true ∧ lowT3.all (okF lowT3) = true := by decide +kernel
def lowU3 : List UInt8 := [224, 235, 122, 124, 59, 65, 184, 174, 22, 86, 227, 250, 241, 159, 196, 106, 218, 9, 141, 235, 156, 50, 177, 253, 134, 98, 5, 22, 95, 73, 184, 0]
theorem low_mult3 (key : List UInt8) (hk : key.length = 32) : multL key lowU3 = leB 0 32 :=
  low_mult key lowU3 hk 325606250916557431795983626356110631294008115727848805560023387167927233504 (by decide +kernel) lowT3_ok.1 lowT3_ok.2 rfl ⟨rfl, rfl, rfl, rfl, rfl⟩
def lowT4 : List Cls := [⟨0, 1, 0, 39382357235489614581723060781553021112529911719440698176882885853963445705823, 1, 0, 1, 41737339704642262903321258117524176596849662212122228668073959407940653183394, 1, 24871845842723059791009793099485790699430777617945840999563689295137248234743, 41737339704642262903321258117524176596849662212122228668073959407940653183394⟩,
  ⟨1, 1, 1, 39382357235489614581723060781553021112529911719440698176882885853963445705823, 1, 2, 24871845842723059791009793099485790699430777617945840999563689295137248234743, 29413069106274463474381376223629838744232671384783177375155860718774123457394, 3, 1946656, 29413069106274463474381376223629838744232671384783177375155860718774123457394⟩,
  ⟨0, 1, 1, 325606250916557431795983626356110631294008115727848805560023387167927233504, 1, 4, 1946656, 43039764708308492630505192622948619122025694675033623890314052956612362117402, 5, 45396917006225111810827341870339786373668205820213556558545403612143054885807, 43039764708308492630505192622948619122025694675033623890314052956612362117402⟩,
  ⟨1, 0, 1, 325606250916557431795983626356110631294008115727848805560023387167927233504, 1, 6, 45396917006225111810827341870339786373668205820213556558545403612143054885807, 1302425003666229727183934505424442525176032462911395222240093548671708934016, 7, 1, 1302425003666229727183934505424442525176032462911395222240093548671708934016⟩,
  ⟨0, 0, 1, 325606250916557431795983626356110631294008115727848805560023387167927233504, 1, 0, 1, 1302425003666229727183934505424442525176032462911395222240093548671708934016, 1, 45396917006225111810827341870339786373668205820213556558545403612143054885807, 1302425003666229727183934505424442525176032462911395222240093548671708934016⟩,
  ⟨1, 1, 1, 325606250916557431795983626356110631294008115727848805560023387167927233504, 1, 2, 45396917006225111810827341870339786373668205820213556558545403612143054885807, 43039764708308492630505192622948619122025694675033623890314052956612362117402, 3, 1946656, 43039764708308492630505192622948619122025694675033623890314052956612362117402⟩,
  ⟨0, 1, 1, 39382357235489614581723060781553021112529911719440698176882885853963445705823, 1, 4, 1946656, 29413069106274463474381376223629838744232671384783177375155860718774123457394, 5, 24871845842723059791009793099485790699430777617945840999563689295137248234743, 29413069106274463474381376223629838744232671384783177375155860718774123457394⟩,
  ⟨1, 1, 0, 39382357235489614581723060781553021112529911719440698176882885853963445705823, 1, 6, 24871845842723059791009793099485790699430777617945840999563689295137248234743, 41737339704642262903321258117524176596849662212122228668073959407940653183394, 7, 1, 41737339704642262903321258117524176596849662212122228668073959407940653183394⟩]
theorem lowT4_ok : okT 39382357235489614581723060781553021112529911719440698176882885853963445705823 lowT4 = true ∧ lowT4.all (okF lowT4) = true := by decide +kernel
def lowU4 : List UInt8 := [95, 156, 149, 188, 163, 80, 140, 36, 177, 208, 177, 85, 156, 131, 239, 91, 4, 68, 92, 196, 88, 28, 142, 134, 216, 34, 78, 221, 208, 159, 17, 87]
theorem low_mult4 (key : List UInt8) (hk : key.length = 32) : multL key lowU4 = leB 0 32 :=
  low_mult key lowU4 hk 39382357235489614581723060781553021112529911719440698176882885853963445705823 (by decide +kernel) lowT4_ok.1 lowT4_ok.2 rfl ⟨rfl, rfl, rfl, rfl, rfl⟩

end Go.Proofs.YtmomfbkpniblgaaGreatDoor

namespace Go.Proofs.YtmomfbkpniblgaaGreatDoor
open Go.RowKit
set_option linter.unusedVariables false

theorem trim_zeros : Lib.trimB (leB 0 32) 0 = [] := by decide

set_option maxHeartbeats 1000000 in
theorem code_cshare0 (w : World) (k u : List UInt8) (hk : k.length = 32) (hu : u.length = 32) (h0 : multL k u = leB 0 32) : Calls Tryz.prog 54 #[S k, S u] w (Grown (.tuple #[S [], .int .i64 12]) w) := by
  have AM : ∀ W : World, Calls Tryz.prog 61 #[S k, S u] W (Grown (.tuple #[S (leB 0 32), .int .i64 0]) W) := fun W => by
    have := code_cmult W k u hk hu
    rwa [h0] at this
  have AT : ∀ W : World, Calls Tryz.prog 90 #[S (leB 0 32), .string ⟨#[0]⟩] W (Grown (S []) W) := fun W => by
    refine (Tryz.strings_Trim_one ⟨(leB 0 32).toArray⟩ 0 (by decide) W (by decide)).mono ?_
    rintro e y ⟨rfl, h⟩
    refine ⟨?_, ?_⟩
    · show _ = Ending.returned (.string ⟨(([] : List UInt8)).toArray⟩)
      rw [← trim_zeros]
    · rcases h with rfl | rfl
      · exact grow_refl _ _
      · exact grow_drew (grow_refl _ _)
  generalize leB 0 32 = Z at *
  unfold S at *
  go_enter Tryz.func54, Tryz.ntmps54
  go_wp2_with fail
  (with_reducible refine (AM _).mono ?_)
  rintro e x1 ⟨rfl, hg1⟩
  go_wp2_with fail
  (with_reducible refine (AT _).mono ?_)
  rintro e x2 ⟨rfl, hg2⟩
  go_wp2_with fail
  go_ret2
  exact ⟨rfl, grow_trans hg1 hg2⟩

end Go.Proofs.YtmomfbkpniblgaaGreatDoor

namespace Go.Proofs.YtmomfbkpniblgaaGreatDoor
open Go.RowKit
set_option linter.unusedVariables false

theorem drop_all {α : Type} (p : α → Bool) : ∀ l : List α, l.dropWhile p = [] → ∀ b ∈ l, p b = true
  | [], _, b, hb => by cases hb
  | a :: l, h, b, hb => by
    rw [List.dropWhile_cons] at h
    split at h
    · rename_i ha
      rcases List.mem_cons.1 hb with rfl | hb
      · exact ha
      · exact drop_all p l h b hb
    · cases h
theorem drop_mem {α : Type} (p : α → Bool) : ∀ l : List α, ∀ b ∈ l, p b = true ∨ b ∈ l.dropWhile p
  | [], b, hb => by cases hb
  | a :: l, b, hb => by
    rw [List.dropWhile_cons]
    split
    · rename_i ha
      rcases List.mem_cons.1 hb with rfl | hb
      · exact Or.inl ha
      · exact drop_mem p l b hb
    · exact Or.inr hb
theorem trim_nought (l : List UInt8) (h : Lib.trimB l 0 = []) : l = List.replicate l.length 0 := by
  refine List.eq_replicate_iff.2 ⟨rfl, fun b hb => ?_⟩
  unfold Lib.trimB Lib.trimLeftB Lib.trimRightB at h
  rcases drop_mem (· == (0 : UInt8)) l.reverse b (List.mem_reverse.2 hb) with q | q
  · simpa using q
  · have := drop_all _ _ h b (List.mem_reverse.2 q)
    simpa using this
theorem leB_nought : leB 0 32 = List.replicate 32 0 := by decide

set_option maxHeartbeats 1000000 in
theorem code_cshareN (w : World) (k u : List UInt8) (hk : k.length = 32) (hu : u.length = 32) (h0 : multL k u ≠ leB 0 32) : Calls Tryz.prog 54 #[S k, S u] w (Grown (.tuple #[S (multL k u), .int .i64 0]) w) := by
  have AM := fun W : World => code_cmult W k u hk hu
  have hl : (multL k u).length = 32 := multL_length _ _
  have hne : Lib.trimB (multL k u) 0 ≠ [] := fun e => h0 (by
    rw [leB_nought, ← hl]
    exact trim_nought _ e)
  clear h0 hk hu
  generalize multL k u = V at *
  have AT : ∀ W : World, Calls Tryz.prog 90 #[S V, .string ⟨#[0]⟩] W (Grown (S (Lib.trimB V 0)) W) := fun W => by
    refine (Tryz.strings_Trim_one ⟨V.toArray⟩ 0 (by decide) W (by show (ByteArray.mk V.toArray).size ≤ _; simp [ByteArray.size]; omega)).mono ?_
    rintro e y ⟨rfl, h⟩
    refine ⟨rfl, ?_⟩
    rcases h with rfl | rfl
    · exact grow_refl _ _
    · exact grow_drew (grow_refl _ _)
  generalize Lib.trimB V 0 = Z at *
  have q1 : (Z == []) = false := beq_eq_false_iff_ne.2 hne
  have q2 : Z.isEmpty = false := by rw [List.isEmpty_eq_false_iff]; exact hne
  have q3 : ¬ Z = [] := hne
  unfold S at *
  go_enter Tryz.func54, Tryz.ntmps54
  go_wp2_with fail
  (with_reducible refine (AM _).mono ?_)
  rintro e x1 ⟨rfl, hg1⟩
  go_wp2_with fail
  (with_reducible refine (AT _).mono ?_)
  rintro e x2 ⟨rfl, hg2⟩
  go_wp2_with fail
  go_ret2
  exact ⟨rfl, grow_trans hg1 hg2⟩

end Go.Proofs.YtmomfbkpniblgaaGreatDoor

namespace Go.Proofs.YtmomfbkpniblgaaGreatDoor
open Go.RowKit
set_option linter.unusedVariables false

theorem code_clamp_err (w : World) (k : List UInt8) (hk : k.length ≠ 32) : Calls Tryz.prog 107 #[S k] w (Grown (.tuple #[S [], .int .i64 1]) w) := by
  have q : ((k.length : Int) != 32) = true := by rw [bne_iff_ne]; omega
  clear hk
  unfold S
  go_enter Tryz.func107, Tryz.ntmps107
  go_wp2_with fail
  go_ret2
  exact ⟨rfl, grow_refl _ _⟩
theorem code_cmult_err (w : World) (k u : List UInt8) (h : ¬ (k.length = 32 ∧ u.length = 32)) : Calls Tryz.prog 61 #[S k, S u] w (Grown (.tuple #[S [], .int .i64 1]) w) := by
  by_cases hk : k.length = 32
  · have A := code_clamp w k hk
    have q : ((u.length : Int) != 32) = true := by rw [bne_iff_ne]; have := fun e => h ⟨hk, e⟩; omega
    generalize clampL k = c at *
    clear hk h
    unfold S at *
    go_enter Tryz.func61, Tryz.ntmps61
    go_wp2_with fail
    (with_reducible refine A.mono ?_)
    rintro e x ⟨rfl, hg⟩
    go_wp2_with fail
    go_ret2
    exact ⟨rfl, hg⟩
  · have A := code_clamp_err w k hk
    clear hk h
    unfold S at *
    go_enter Tryz.func61, Tryz.ntmps61
    go_wp2_with fail
    (with_reducible refine A.mono ?_)
    rintro e x ⟨rfl, hg⟩
    go_wp2_with fail
    go_ret2
    exact ⟨rfl, hg⟩

set_option maxHeartbeats 1000000 in
theorem code_cpublic_err (w : World) (k : List UInt8) (hk : k.length ≠ 32) : Calls Tryz.prog 38 #[S k] w (Grown (.tuple #[S [], .int .i64 1]) w) := by
  have AR : ∀ W : World, Calls Tryz.prog 62 #[.string ⟨#[0]⟩, .int .i64 31] W (Grown (S (zerosL 31)) W) := fun W => repeat_zero W 31 (by omega)
  have AM : ∀ W : World, Calls Tryz.prog 61 #[S k, S (9 :: zerosL 31)] W (Grown (.tuple #[S [], .int .i64 1]) W) := fun W => code_cmult_err W k nineL (fun h => hk h.1)
  have r1 := rule_app
  have r3 : ∀ (a : List UInt8), ByteArray.mk #[9] ++ ByteArray.mk a.toArray = ⟨([9] ++ a).toArray⟩ := fun a => rule_app [9] a
  have lz : (zerosL 31).length = 31 := by decide
  generalize zerosL 31 = Z at *
  have k1 : 1 + Z.length ≤ 9223372036854775807 := by omega
  have k2 : ¬ (9223372036854775807 < 1 + Z.length) := by omega
  clear hk
  unfold S at *
  go_enter Tryz.func38, Tryz.ntmps38
  go_wp2_with fail
  (with_reducible refine (AR _).mono ?_)
  rintro e x1 ⟨rfl, hg1⟩
  go_wp2_with fail
  (with_reducible refine (AM _).mono ?_)
  rintro e x2 ⟨rfl, hg2⟩
  go_wp2_with fail
  go_ret2
  exact ⟨rfl, grow_trans hg1 hg2⟩
theorem code_cshare_err (w : World) (k u : List UInt8) (h : ¬ (k.length = 32 ∧ u.length = 32)) : Calls Tryz.prog 54 #[S k, S u] w (Grown (.tuple #[S [], .int .i64 1]) w) := by
  have A := code_cmult_err w k u h
  clear h
  unfold S at *
  go_enter Tryz.func54, Tryz.ntmps54
  go_wp2_with fail
  (with_reducible refine A.mono ?_)
  rintro e x ⟨rfl, hg⟩
  go_wp2_with fail
  go_ret2
  exact ⟨rfl, hg⟩

theorem code_cpublic_any (k : List UInt8) : ∃ (s : List UInt8) (n : Nat), s.length ≤ 32 ∧ n ≤ 15 ∧ ∀ w : World, Calls Tryz.prog 38 #[S k] w (Grown (.tuple #[S s, .int .i64 (n : Int)]) w) := by
  by_cases hk : k.length = 32
  · exact ⟨_, 0, by rw [multL_length]; omega, by omega, fun w => code_cpublic w k hk⟩
  · exact ⟨[], 1, by simp, by omega, fun w => code_cpublic_err w k hk⟩
theorem code_cshare_any (k u : List UInt8) : ∃ (s : List UInt8) (n : Nat), s.length ≤ 32 ∧ n ≤ 15 ∧ ∀ w : World, Calls Tryz.prog 54 #[S k, S u] w (Grown (.tuple #[S s, .int .i64 (n : Int)]) w) := by
  by_cases hk : k.length = 32 ∧ u.length = 32
  · by_cases h0 : multL k u = leB 0 32
    · exact ⟨[], 12, by simp, by omega, fun w => code_cshare0 w k u hk.1 hk.2 h0⟩
    · exact ⟨_, 0, by rw [multL_length]; omega, by omega, fun w => code_cshareN w k u hk.1 hk.2 h0⟩
  · exact ⟨[], 1, by simp, by omega, fun w => code_cshare_err w k u hk⟩

end Go.Proofs.YtmomfbkpniblgaaGreatDoor
