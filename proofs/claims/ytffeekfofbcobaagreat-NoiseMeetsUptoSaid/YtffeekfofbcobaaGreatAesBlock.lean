/- AES: a block's steps. -/
import Derived.Test.YtffeekfofbcobaaGreatAesMade
import Derived.Test.YtffeekfofbcobaaGreatByRow
import Derived.Lib.LazyBuf
import Derived.Deep.RegionWith
import Derived.Great.Walk
namespace Go.Proofs.YtffeekfofbcobaaGreat
open Go.RowKit
set_option linter.unusedVariables false

def BB (w : World) (B : Nat) (l : List UInt8) : Prop := Blk w B 172 (l.map bcell)

theorem BB.cell {w : World} {B : Nat} {l : List UInt8} (h : BB w B l) (i : Nat) (hi : i < l.length) : w.cell? ⟨B, i, none⟩ = some (.int .u8 (l[i].toNat : Int)) := by
  rw [Blk.cell h]
  simp [bcell, hi]
theorem BB.bys {w : World} {B : Nat} {l : List UInt8} (h : BB w B l) : Bys w B l := fun i hi => ⟨h.cell i hi, Blk.frozen h i⟩

theorem u8_info : (Tryz.prog.info? 5).map (·.size) = some 1 := by kernel_rfl
theorem u8_size (w : World) : (Go.sizeOf 5).run Tryz.prog w = .ok 1 w := by
  have h := u8_info
  cases hq : Tryz.prog.info? 5 with
  | none => rw [hq] at h; simp at h
  | some i =>
    rw [hq] at h
    have hi : i.size = 1 := by simpa using h
    simp [sizeOf, typeInfo, hq, hi]

set_option maxHeartbeats 1000000 in
theorem code_aadd (w : World) (B : Nat) (l s : List UInt8) (hB : BB w B l) (hl : l.length = 16) (hs : 16 ≤ s.length) (hs2 : s.length ≤ 140737488355328) :
    Calls Tryz.prog 117 #[.pointer (some ⟨B, 0, none⟩), S s] w fun e w' => e = .returned (.tuple #[]) ∧ BB w' B (xorL l s) ∧ w.grownBy w' (some B) := by
  have A1 : ∀ W : World, Calls Tryz.prog 83 #[S l, S s] W (GrowsTo (S (xorL l s)) W) := fun W => wire_xor W l s (by omega) hs2
  have hcv : (convert 46 9 (.slice (some ⟨B, 0, none⟩) 16 16)).run Tryz.prog w = .ok (S l) w := by have := conv_bys hB.bys 16; rw [hl] at this; exact this
  have hcd : (convert 46 9 (.slice (some ⟨B, 0, none⟩) 16 16)).run Tryz.prog w.drew = .ok (S l) w.drew := by have := conv_bys (w := w.drew) (b := B) (l := l) hB.bys 16; rw [hl] at this; exact this
  have lx : (xorL l s).length = 16 := by rw [xorL_length]; omega
  have HB := Lib.hid hB
  have hfin : ∀ W : World, w.grownBy W none → BB (W.setCells B 0 ((xorL l s).map bcell)) B (xorL l s) := fun W hg => Blk.store (Blk.kept HB.out hg (by simp)) _ (by simp [lx, hl])
  generalize xorL l s = X at *
  clear hB
  have CP : ∀ W : World, w.grownBy W none → (Builtin.copy_ #[46, 9] 3 #[.slice (some ⟨B, 0, none⟩) 16 16, .string ⟨X.toArray⟩]).run Tryz.prog W = .ok (.int .i64 16) (W.setCells B 0 (X.map bcell)) := fun W hg => by
    have hBW : BB W B l := Blk.kept HB.out hg (by simp)
    have lX : (ByteArray.mk X.toArray).size = 16 := by simpa [ByteArray.size] using lx
    have := run_copy_string (P := Tryz.prog) W 46 9 3 5 B 0 16 16 ⟨X.toArray⟩ Tryz.underlying46 u8_size (by omega) (fun j hj => by rw [Nat.zero_add, hBW.cell j (by omega)]; rfl) (fun j hj => by rw [Nat.zero_add]; exact Blk.frozen hBW j)
    rw [lX] at this
    exact this
  unfold S GrowsTo at *
  go_enter Tryz.func117, Tryz.ntmps117
  go_region_with (first
    | (go_at_call 83; (with_reducible refine (A1 _).mono ?_); rintro e x ⟨rfl, hg⟩; have hcp := CP x (by first | exact grow_trans (grow_drew (grow_refl w none)) hg | exact hg)))
  all_goals
    have hgx := grow_trans (grow_drew (grow_refl w none)) hg
    have hf2 := hfin x hgx
    clear hcp CP hcv hcd hg
    go_end0
    exact ⟨rfl, hf2, grow_setCells _ _ _ _ _ (grow_none hgx)⟩

/-- The first i are turned. -/
def mapK (f : UInt8 → UInt8) (l : List UInt8) (i : Nat) : List UInt8 := (l.map f).take i ++ l.drop i
theorem mapK_zero (f : UInt8 → UInt8) (l : List UInt8) : mapK f l 0 = l := rfl
theorem mapK_all (f : UInt8 → UInt8) (l : List UInt8) (n : Nat) (h : l.length = n) : mapK f l n = l.map f := by
  subst h
  unfold mapK
  rw [List.drop_length, List.append_nil, List.take_of_length_le (by simp)]
theorem mapK_length (f : UInt8 → UInt8) (l : List UInt8) (i : Nat) : (mapK f l i).length = l.length := by
  unfold mapK
  rw [List.length_append, List.length_take, List.length_drop, List.length_map]
  omega
theorem mapK_at (f : UInt8 → UInt8) (l : List UInt8) (i : Nat) (h : i < l.length) : (mapK f l i)[i]'(by rw [mapK_length]; exact h) = l[i] := by
  unfold mapK
  rw [List.getElem_append_right (by rw [List.length_take]; omega)]
  simp [Nat.min_eq_left (Nat.le_of_lt h)]
theorem mapK_set (f : UInt8 → UInt8) (l : List UInt8) (i : Nat) (h : i < l.length) : (mapK f l i).set i (f l[i]) = mapK f l (i + 1) := by
  unfold mapK
  rw [List.set_append_right _ _ (by rw [List.length_take]; omega), List.length_take, List.length_map, Nat.min_eq_left (Nat.le_of_lt h), Nat.sub_self]
  have e : l.drop i = l[i] :: l.drop (i + 1) := List.drop_eq_getElem_cons h
  rw [List.take_succ_eq_append_getElem (by simpa using h)]
  simp
  rw [e]
  rfl

theorem BB.set {w : World} {B : Nat} {l : List UInt8} (h : BB w B l) (i : Nat) (c : UInt8) : BB (w.setCell ⟨B, i, none⟩ (.int .u8 (c.toNat : Int))) B (l.set i c) := by
  have := Blk.set h i (bcell c)
  unfold BB
  rw [List.map_set]
  exact this

set_option maxRecDepth 20000 in
set_option maxHeartbeats 1000000 in
theorem code_through (w : World) (B T off : Nat) (f : UInt8 → UInt8) (l : List UInt8) (hB : BB w B l) (hl : l.length = 16) (hT : ∀ W : World, w.grownBy W (some B) → ∀ c : UInt8, W.cell? ⟨T, off + c.toNat, none⟩ = some (.int .u8 ((f c).toNat : Int))) :
    Calls Tryz.prog 118 #[.pointer (some ⟨B, 0, none⟩), .pointer (some ⟨T, off, none⟩)] w fun e w' => e = .returned (.tuple #[]) ∧ BB w' B (l.map f) ∧ w.grownBy w' (some B) := by
  have HL := Lib.hid hl
  clear hl
  go_enter Tryz.func118, Tryz.ntmps118
  go_wp2_with fail
  go_loopw [7] (fun vi wr => ∃ i : Nat, i ≤ 16 ∧ vi = .int .i64 i ∧ BB wr B (mapK f l i) ∧ w.grownBy wr (some B)) (fun vi _ => 16 - (intOf vi).toNat)
  case atStart => exact ⟨0, by omega, rfl, hB, grow_refl _ _⟩
  case round =>
    clear hB
    obtain ⟨i, hi, rfl, hK, hg⟩ := hrel
    by_cases hlt : i < 16
    · have hil : i < l.length := by have := HL.out; omega
      have c1 := hK.cell i (by rw [mapK_length]; exact hil)
      rw [mapK_at f l i hil] at c1
      have f1 := Blk.frozen hK i
      have hst := Lib.hid (And.intro (hK.set i (f l[i])) (grow_setCell hg i (.int .u8 ((f l[i]).toNat : Int))))
      rw [mapK_set f l i hil] at hst
      have ct := hT wr hg l[i]
      have cl := u8_lt l[i]
      generalize f l[i] = d at *
      generalize l[i] = c at *
      clear hK hT
      have b0 : (0 : Int) ≤ (c.toNat : Int) := by omega
      have b1 : (c.toNat : Int) < 256 := by omega
      go_wp2_with fail
      go_region
      go_wp2_with fail
      go_region
      go_wp2_with fail
      go_roundw
      case rel => exact ⟨i + 1, by omega, by go_num, hst.out.1, grow_drew (grow_drew hst.out.2)⟩
      case measure => simp [intOf]; omega
    · obtain rfl : i = 16 := by omega
      rw [mapK_all f l 16 HL.out] at hK
      go_wp2_with fail
      go_end0
      exact ⟨rfl, hK, hg⟩

def rowK (t : Nat) (b : List UInt8) (i : Nat) : List UInt8 := (rowsL t b).take i ++ b.drop i
theorem rowK_length (t : Nat) (b : List UInt8) (hb : b.length = 16) (i : Nat) : (rowK t b i).length = 16 := by
  unfold rowK
  rw [List.length_append, List.length_take, List.length_drop, rowsL_length, hb]
  omega

set_option maxRecDepth 20000 in
set_option maxHeartbeats 1000000 in
theorem code_arows (w : World) (B t : Nat) (l : List UInt8) (hB : BB w B l) (hl : l.length = 16) (ht : t ≤ 3) :
    Calls Tryz.prog 119 #[.pointer (some ⟨B, 0, none⟩), .int .i64 t] w fun e w' => e = .returned (.tuple #[]) ∧ BB w' B (rowsL t l) ∧ w.grownBy w' (some B) := by
  have HL := Lib.hid hl
  have info16 : (Tryz.prog.info? 172).map (·.size) = some (l.map bcell).length := by rw [List.length_map, hl]; kernel_rfl
  have HI := Lib.hid info16
  have hsv := fun W : World => run_store_new (P := Tryz.prog) W #[.int .u8 0, .int .u8 0, .int .u8 0, .int .u8 0, .int .u8 0, .int .u8 0, .int .u8 0, .int .u8 0, .int .u8 0, .int .u8 0, .int .u8 0, .int .u8 0, .int .u8 0, .int .u8 0, .int .u8 0, .int .u8 0] 172 (l.map bcell) (by simp [hl]) (by intro v hv; obtain ⟨c, _, rfl⟩ := List.mem_map.1 hv; rfl)
  clear hl info16
  go_enter Tryz.func119, Tryz.ntmps119
  go_upto_region 0 with (fail)
  refine wp_region_lit ?_
  refine Go.Great.wpList_readTo rfl _ rfl (.pointer (some ⟨B, 0, none⟩)) rfl ?_
  refine Go.Great.wpList_readTo rfl _ rfl (.pointer (some ⟨B, 0, none⟩)) rfl ?_
  refine wpList_load_mid rfl 172 _ rfl B 0 rfl (l.map bcell) _ (Blk.range hB) Tryz.underlying172 rfl HI.out ?_
  go_upto_region 1 with (fail)
  clear hsv
  obtain ⟨C, hC⟩ : ∃ C, C = w.heap.size := ⟨_, rfl⟩
  have hC0 : BB (w.alloc (.cells (l.map bcell).toArray 172)) C l := by rw [hC]; exact Blk.new w _ _
  have hB0 : BB (w.alloc (.cells (l.map bcell).toArray 172)) B (rowK t l 0) := Blk.kept hB (World.grownBy_alloc _ _ none) (by simp)
  have hg0 : w.grownBy (w.alloc (.cells (l.map bcell).toArray 172)) (some B) := grow_alloc (grow_refl w _) _
  have hBC : B ≠ C := by have := Blk.lt hB; omega
  rw [← hC]
  clear hB hC
  generalize w.alloc (.cells (l.map bcell).toArray 172) = x at *
  have HC := Lib.hid hC0
  clear hC0
  go_wp2_with fail
  go_loopw [11] (fun vi wr => ∃ i : Nat, i ≤ 16 ∧ vi = .int .i64 i ∧ BB wr B (rowK t l i) ∧ x.grownBy wr (some B)) (fun vi _ => 16 - (intOf vi).toNat)
  case atStart => exact ⟨0, by omega, rfl, hB0, grow_refl _ _⟩
  case round =>
    clear hB0
    obtain ⟨i, hi, rfl, hK, hg⟩ := hrel
    have kl := rowK_length t l HL.out i
    by_cases hlt : i < 16
    · obtain ⟨k, hk, hk16⟩ : ∃ k : Nat, k = i % 4 + 4 * ((i / 4 + t * (i % 4)) % 4) ∧ k < 16 := ⟨_, rfl, by omega⟩
      have hkl : k < l.length := by have := HL.out; omega
      have hCr : BB wr C l := Blk.kept HC.out hg (by simp; omega)
      have ck := hCr.cell k hkl
      have hset : (rowK t l i).set i l[k] = rowK t l (i + 1) := by
        have e1 : (rowsL t l)[i]'(by rw [rowsL_length]; exact hlt) = l[k] := by
          unfold rowsL
          rw [List.getElem_map, List.getElem_range, ← hk, List.getD_eq_getElem?_getD, List.getElem?_eq_getElem hkl]
          rfl
        have e2 : l.drop i = l[i]'(by have := HL.out; omega) :: l.drop (i + 1) := List.drop_eq_getElem_cons _
        unfold rowK
        rw [List.set_append_right _ _ (by rw [List.length_take]; omega), List.length_take, rowsL_length, Nat.min_eq_left (Nat.le_of_lt hlt), Nat.sub_self, e2, List.set_cons_zero]
        rw [List.take_succ_eq_append_getElem (by rw [rowsL_length]; exact hlt), e1, List.append_assoc]
        rfl
      have hst := Lib.hid (And.intro (hK.set i l[k]) (grow_setCell hg i (.int .u8 (l[k].toNat : Int))))
      rw [hset] at hst
      clear hset
      have ci := hK.cell i (by omega)
      have fi := Blk.frozen hK i
      generalize (rowK t l i)[i]'_ = d at *
      generalize l[k] = c at *
      have q1 : (t : Int) * ((i : Int) % 4) = ((t * (i % 4) : Nat) : Int) := by rw [Int.natCast_mul]; rfl
      obtain ⟨u, hu⟩ : ∃ u : Nat, u = t * (i % 4) := ⟨_, rfl⟩
      have hu9 : u ≤ 9 := by rw [hu]; exact Nat.mul_le_mul ht (by omega : i % 4 ≤ 3)
      rw [← hu] at q1 hk
      clear hu
      have q3 : (i : Int) % 4 + 4 * (((i : Int) / 4 + (u : Int)) % 4) = (k : Int) := by omega
      have k0 : (0 : Int) ≤ (k : Int) := by omega
      have k1 : (k : Int) < 16 := by omega
      clear hK hCr hk kl hkl hi hg
      go_wp2_with fail
      go_region
      go_wp2_with fail
      go_roundw
      case rel => exact ⟨i + 1, by omega, by go_num, hst.out.1, grow_drew hst.out.2⟩
      case measure => simp [intOf]; omega
    · obtain rfl : i = 16 := by omega
      have e : rowK t l 16 = rowsL t l := by
        unfold rowK
        rw [List.drop_of_length_le (by have := HL.out; omega), List.append_nil, List.take_of_length_le (by rw [rowsL_length]; omega)]
      rw [e] at hK
      go_wp2_with fail
      go_end0
      exact ⟨rfl, hK, grow_trans hg0 hg⟩

end Go.Proofs.YtffeekfofbcobaaGreat
