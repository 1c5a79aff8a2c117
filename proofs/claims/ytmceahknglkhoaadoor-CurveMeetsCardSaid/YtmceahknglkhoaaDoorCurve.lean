/- Curve: Clamp and Mult. -/
import Derived.Test.YtmceahknglkhoaaDoorLadder
import Derived.Test.YtmceahknglkhoaaDoorByRow
namespace Go.Proofs.YtmceahknglkhoaaDoor
open Go.RowKit
set_option linter.unusedVariables false

def clampL (k : List UInt8) : List UInt8 := (k.set 0 (k.getD 0 0 &&& 248)).set 31 (k.getD 31 0 &&& 127 ||| 64)
def maskL (u : List UInt8) : List UInt8 := u.set 31 (u.getD 31 0 &&& 127)
/-- A multiple. -/
def multL (k u : List UInt8) : List UInt8 := leB (ladN (leN (clampL k)) (leN (maskL u)) % PP) 32
theorem clampL_length (k : List UInt8) : (clampL k).length = k.length := by simp [clampL]
theorem maskL_length (u : List UInt8) : (maskL u).length = u.length := by simp [maskL]
theorem multL_length (k u : List UInt8) : (multL k u).length = 32 := leB_length _ _

theorem u8_and (c : UInt8) (N : Int) (m : UInt8) (hm : N = (m.toNat : Int)) : bits .and .u8 (c.toNat : Int) N = ((c &&& m).toNat : Int) := by
  subst hm
  rw [UInt8.toNat_and]
  exact u8_and_nat _ _ (u8_lt c) (u8_lt m)
theorem u8_or (c : UInt8) (N : Int) (m : UInt8) (hm : N = (m.toNat : Int)) : bits .or .u8 (c.toNat : Int) N = ((c ||| m).toNat : Int) := by
  subst hm
  rw [UInt8.toNat_or]
  exact u8_or_nat _ _ (u8_lt c) (u8_lt m)

set_option maxHeartbeats 1000000 in
theorem code_clamp (w : World) (k : List UInt8) (hk : k.length = 32) : Calls Tryd.prog 24 #[S k] w (Grown (.tuple #[S (clampL k), .int .i64 0]) w) := by
  obtain ⟨cap, x, hcv, hcap, hg, hlt, hb⟩ := to_bytes w k (by omega)
  obtain ⟨B, hB⟩ : ∃ B, B = w.heap.size := ⟨_, rfl⟩
  rw [← hB] at hcv hb hlt
  have h0 := hb.cell 0 (by omega)
  have f0 := hb.frozen 0 (by omega)
  have hV : clampL k = (k.set 0 (k[0] &&& 248)).set 31 (k[31] &&& 127 ||| 64) := by
    unfold clampL
    rw [List.getD_eq_getElem?_getD, List.getElem?_eq_getElem (by omega), List.getD_eq_getElem?_getD, List.getElem?_eq_getElem (by omega)]
    rfl
  have b1 := hb.set 0 (k[0] &&& 248) (by omega)
  have h31 := b1.cell 31 (by rw [List.length_set]; omega)
  have f31 := b1.frozen 31 (by rw [List.length_set]; omega)
  rw [List.getElem_set_ne (by omega)] at h31
  have b2 := b1.set 31 (k[31] &&& 127 ||| 64) (by rw [List.length_set]; omega)
  rw [← hV] at b2
  have hc2 := conv_bys b2 cap
  rw [clampL_length] at hc2
  have a1 := u8_and k[0] 248 248 rfl
  have a2 := u8_and k[31] 127 127 rfl
  have a3 := u8_or (k[31] &&& 127) 64 64 rfl
  have hgf : w.grownBy ((x.setCell ⟨B, 0, none⟩ (.int .u8 ((k[0] &&& 248).toNat : Int))).setCell ⟨B, 31, none⟩ (.int .u8 ((k[31] &&& 127 ||| 64).toNat : Int))) none := grow_setCell_new (grow_setCell_new hg _ (by rw [hB]; exact Nat.le_refl _) _) _ (by rw [hB]; exact Nat.le_refl _) _
  have HG := Lib.hid hgf
  have q : ((k.length : Int) != 32) = false := by rw [hk]; rfl
  clear hV b1 b2 hgf hb hg hB
  generalize clampL k = V at *
  generalize k[0] = c at *
  generalize k[31] = d at *
  rw [hk] at hcv hc2 hcap
  generalize c &&& 248 = c' at *
  generalize d &&& 127 = d1 at *
  generalize d1 ||| 64 = d2 at *
  unfold S
  go_enter Tryd.func24, Tryd.ntmps24
  go_wp2_with fail
  go_ret2
  exact ⟨rfl, HG.out⟩

set_option maxHeartbeats 1000000 in
theorem code_cmult (w : World) (k u : List UInt8) (hk : k.length = 32) (hu : u.length = 32) : Calls Tryd.prog 14 #[S k, S u] w (Grown (.tuple #[S (multL k u), .int .i64 0]) w) := by
  have AC := fun W : World => code_clamp W k hk
  have AL : ∀ W : World, Calls Tryd.prog 25 #[S (clampL k), S (maskL u)] W (Grown (S (multL k u)) W) := fun W => code_ladder W (clampL k) (maskL u) (by rw [clampL_length, hk]) (by rw [maskL_length, hu])
  generalize multL k u = R at *
  generalize clampL k = K at *
  have q : ((u.length : Int) != 32) = false := by rw [hu]; rfl
  have HA := Lib.hid (fun W : World => to_bytes W u (by omega))
  have hV : maskL u = u.set 31 (u[31] &&& 127) := by
    unfold maskL
    rw [List.getD_eq_getElem?_getD, List.getElem?_eq_getElem (by omega)]
    rfl
  have HVV := Lib.hid hV
  have HU := Lib.hid hu
  have lm := maskL_length u
  have a2 := u8_and u[31] 127 127 rfl
  have HLM := Lib.hid lm
  clear hV lm
  unfold S at *
  go_enter Tryd.func14, Tryd.ntmps14
  go_wp2_with fail
  (with_reducible refine (AC _).mono ?_)
  rintro e x1 ⟨rfl, hg1⟩
  obtain ⟨cap, x, hcv, hcap, hg, hlt, hb⟩ := HA.out x1
  obtain ⟨B, hB⟩ : ∃ B, B = x1.heap.size := ⟨_, rfl⟩
  rw [← hB] at hcv hb hlt
  have h31 := hb.cell 31 (by have := HU.out; omega)
  have f31 := hb.frozen 31 (by have := HU.out; omega)
  have b1 := hb.set 31 (u[31] &&& 127) (by have := HU.out; omega)
  rw [← HVV.out] at b1
  have hc2 := conv_bys b1 cap
  rw [HLM.out] at hc2
  have hgf : w.grownBy (x.setCell ⟨B, 31, none⟩ (.int .u8 ((u[31] &&& 127).toNat : Int))) none := grow_setCell_new (grow_trans hg1 hg) _ (by rw [hB]; exact hg1.size) _
  have HG := Lib.hid hgf
  clear b1 hgf hb hg hg1 HVV HLM HA AC hB
  generalize maskL u = V at *
  generalize u[31] = d at *
  generalize d &&& 127 = d1 at *
  rw [hu] at hcv hc2 hcap
  go_wp2_with fail
  (with_reducible refine (AL _).mono ?_)
  rintro e x3 ⟨rfl, hg3⟩
  go_wp2_with fail
  go_ret2
  exact ⟨rfl, grow_trans HG.out hg3⟩

end Go.Proofs.YtmceahknglkhoaaDoor
