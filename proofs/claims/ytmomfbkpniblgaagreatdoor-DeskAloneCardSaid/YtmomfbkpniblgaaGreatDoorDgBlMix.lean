/- BLAKE2s: four numbers mixed. -/
import Derived.Test.YtmomfbkpniblgaaGreatDoorDg07
import Derived.Test.YtmomfbkpniblgaaGreatDoorDgShaTaken
namespace Go.Proofs.YtmomfbkpniblgaaGreatDoor
open Go.RowKit
set_option linter.unusedVariables false

/-- Four places of a block. -/
def Four (w : World) (V : Nat) (L : List Nat) (i j k l a b c d : Nat) : Prop :=
  HB w V 344 L ∧ L[i]? = some a ∧ L[j]? = some b ∧ L[k]? = some c ∧ L[l]? = some d
theorem hb_at {w : World} {V : Nat} {t : TypeId} {L : List Nat} (h : HB w V t L) {i a : Nat} (e : L[i]? = some a) : w.cell? ⟨V, i, none⟩ = some (.int .u32 (a : Int)) := by
  rw [Blk.cell h, List.getElem?_map, e]
  rfl
theorem set_at {L : List Nat} {i a n : Nat} (e : L[i]? = some a) : (L.set i n)[i]? = some n := by
  rw [List.getElem?_set_self (List.getElem?_eq_some_iff.1 e).1]
theorem set_off {L : List Nat} {i j b n : Nat} (h : i ≠ j) (e : L[j]? = some b) : (L.set i n)[j]? = some b := by
  rw [List.getElem?_set_ne h, e]
theorem Four.cells {w : World} {V : Nat} {L : List Nat} {i j k l a b c d : Nat} (h : Four w V L i j k l a b c d) :
    (w.cell? ⟨V, i, none⟩ = some (.int .u32 (a : Int)) ∧ w.cell? ⟨V, j, none⟩ = some (.int .u32 (b : Int)) ∧ w.cell? ⟨V, k, none⟩ = some (.int .u32 (c : Int)) ∧ w.cell? ⟨V, l, none⟩ = some (.int .u32 (d : Int))) ∧
    w.frozen? ⟨V, i, none⟩ = false ∧ w.frozen? ⟨V, j, none⟩ = false ∧ w.frozen? ⟨V, k, none⟩ = false ∧ w.frozen? ⟨V, l, none⟩ = false :=
  ⟨⟨hb_at h.1 h.2.1, hb_at h.1 h.2.2.1, hb_at h.1 h.2.2.2.1, hb_at h.1 h.2.2.2.2⟩, Blk.frozen h.1 i, Blk.frozen h.1 j, Blk.frozen h.1 k, Blk.frozen h.1 l⟩
def Apart (i j k l : Nat) : Prop := i ≠ j ∧ i ≠ k ∧ i ≠ l ∧ j ≠ k ∧ j ≠ l ∧ k ≠ l
theorem Four.setI {w : World} {V : Nat} {L : List Nat} {i j k l a b c d : Nat} (h : Four w V L i j k l a b c d) (p : Apart i j k l) (n : Nat) : Four (w.setCell ⟨V, i, none⟩ (.int .u32 (n : Int))).drew V (L.set i n) i j k l n b c d :=
  ⟨HB.set h.1 i n, set_at h.2.1, set_off p.1 h.2.2.1, set_off p.2.1 h.2.2.2.1, set_off p.2.2.1 h.2.2.2.2⟩
theorem Four.setJ {w : World} {V : Nat} {L : List Nat} {i j k l a b c d : Nat} (h : Four w V L i j k l a b c d) (p : Apart i j k l) (n : Nat) : Four (w.setCell ⟨V, j, none⟩ (.int .u32 (n : Int))).drew V (L.set j n) i j k l a n c d :=
  ⟨HB.set h.1 j n, set_off p.1.symm h.2.1, set_at h.2.2.1, set_off p.2.2.2.1 h.2.2.2.1, set_off p.2.2.2.2.1 h.2.2.2.2⟩
theorem Four.setK {w : World} {V : Nat} {L : List Nat} {i j k l a b c d : Nat} (h : Four w V L i j k l a b c d) (p : Apart i j k l) (n : Nat) : Four (w.setCell ⟨V, k, none⟩ (.int .u32 (n : Int))).drew V (L.set k n) i j k l a b n d :=
  ⟨HB.set h.1 k n, set_off p.2.1.symm h.2.1, set_off p.2.2.2.1.symm h.2.2.1, set_at h.2.2.2.1, set_off p.2.2.2.2.2 h.2.2.2.2⟩
theorem Four.setL {w : World} {V : Nat} {L : List Nat} {i j k l a b c d : Nat} (h : Four w V L i j k l a b c d) (p : Apart i j k l) (n : Nat) : Four (w.setCell ⟨V, l, none⟩ (.int .u32 (n : Int))).drew V (L.set l n) i j k l a b c n :=
  ⟨HB.set h.1 l n, set_off p.2.2.1.symm h.2.1, set_off p.2.2.2.2.1.symm h.2.2.1, set_off p.2.2.2.2.2.symm h.2.2.2.1, set_at h.2.2.2.2⟩
theorem sets8 (L : List Nat) (i j k l a1 d1 c1 b1 a2 d2 c2 b2 : Nat) (p : Apart i j k l) :
    (((((((L.set i a1).set l d1).set k c1).set j b1).set i a2).set l d2).set k c2).set j b2 = (((L.set i a2).set j b2).set k c2).set l d2 := by
  obtain ⟨h1, h2, h3, h4, h5, h6⟩ := p
  apply List.ext_getElem?
  intro n
  simp only [List.getElem?_set, List.length_set]
  by_cases ei : i = n
  · subst ei; simp [h1.symm, h2.symm, h3.symm]
  · by_cases ej : j = n
    · subst ej; simp [h4.symm, h5.symm]
    · by_cases ek : k = n
      · subst ek; simp [ej, h6.symm]
      · by_cases el : l = n
        · subst el; simp [ej, ek]
        · simp [ei, ej, ek, el]

theorem getD_some (L : List Nat) (i : Nat) (h : i < L.length) : L[i]? = some (L.getD i 0) := by
  rw [List.getD_eq_getElem?_getD, List.getElem?_eq_getElem h]
  rfl
theorem nameRot (x s : Nat) (h : x < 4294967296) : ∃ c : Nat, rotl32 x s = c ∧ c < 4294967296 := ⟨_, rfl, rotl32_lt h⟩
def MixIs (V : Nat) (L : List Nat) (w : World) (e : Ending) (w' : World) : Prop := e = .returned (.tuple #[]) ∧ HB w' V 344 L ∧ w.grownBy w' (some V)
theorem rot16 (w : World) (x : Nat) (hx : x < 4294967296) : Calls Tryz.prog 283 #[.int .u32 (x : Int), .int .i64 (-16)] w (Said32 (rotl32 x 16) w) := rot32_any x 16 _ w hx (by kernel_rfl) (by omega) (by omega)
theorem rot12 (w : World) (x : Nat) (hx : x < 4294967296) : Calls Tryz.prog 283 #[.int .u32 (x : Int), .int .i64 (-12)] w (Said32 (rotl32 x 20) w) := rot32_any x 20 _ w hx (by kernel_rfl) (by omega) (by omega)
theorem rot8m (w : World) (x : Nat) (hx : x < 4294967296) : Calls Tryz.prog 283 #[.int .u32 (x : Int), .int .i64 (-8)] w (Said32 (rotl32 x 24) w) := rot32_any x 24 _ w hx (by kernel_rfl) (by omega) (by omega)
theorem rot7 (w : World) (x : Nat) (hx : x < 4294967296) : Calls Tryz.prog 283 #[.int .u32 (x : Int), .int .i64 (-7)] w (Said32 (rotl32 x 25) w) := rot32_any x 25 _ w hx (by kernel_rfl) (by omega) (by omega)

set_option maxRecDepth 20000 in
set_option maxHeartbeats 4000000 in
theorem code_mix (w : World) (V : Nat) (L : List Nat) (i j k l x y : Nat) (hV : HB w V 344 L) (hL : L.length = 16) (hs : Small32 L) (p : Apart i j k l) (li : i < 16) (lj : j < 16) (lk : k < 16) (ll : l < 16) (hx : x < 4294967296) (hy : y < 4294967296) :
    Calls Tryz.prog 263 #[.pointer (some ⟨V, 0, none⟩), .agg #[.int .i64 (i : Int), .int .i64 (j : Int), .int .i64 (k : Int), .int .i64 (l : Int)], .int .u32 (x : Int), .int .u32 (y : Int)] w (MixIs V (blMix i j k l x y L) w) := by
  obtain ⟨a, ha⟩ : ∃ a, a = L.getD i 0 := ⟨_, rfl⟩
  obtain ⟨b, hb⟩ : ∃ b, b = L.getD j 0 := ⟨_, rfl⟩
  obtain ⟨c, hc⟩ : ∃ c, c = L.getD k 0 := ⟨_, rfl⟩
  obtain ⟨d, hd⟩ : ∃ d, d = L.getD l 0 := ⟨_, rfl⟩
  have la : a < 4294967296 := by rw [ha]; exact getD_lt hs i
  have lb : b < 4294967296 := by rw [hb]; exact getD_lt hs j
  have lc : c < 4294967296 := by rw [hc]; exact getD_lt hs k
  have ld : d < 4294967296 := by rw [hd]; exact getD_lt hs l
  have F : Four w V L i j k l a b c d := ⟨hV, by rw [ha]; exact getD_some L i (by omega), by rw [hb]; exact getD_some L j (by omega), by rw [hc]; exact getD_some L k (by omega), by rw [hd]; exact getD_some L l (by omega)⟩
  obtain ⟨t1, et1, lt1⟩ := nameAdd b x
  obtain ⟨a1, ea1, la1⟩ := nameAdd a t1
  obtain ⟨n1, en1, ln1⟩ := nameXor d a1 ld la1
  obtain ⟨d1, ed1, ld1⟩ := nameRot n1 16 ln1
  obtain ⟨c1, ec1, lc1⟩ := nameAdd c d1
  obtain ⟨n2, en2, ln2⟩ := nameXor b c1 lb lc1
  obtain ⟨b1, eb1, lb1⟩ := nameRot n2 20 ln2
  obtain ⟨t2, et2, lt2⟩ := nameAdd b1 y
  obtain ⟨a2, ea2, la2⟩ := nameAdd a1 t2
  obtain ⟨n3, en3, ln3⟩ := nameXor d1 a2 ld1 la2
  obtain ⟨d2, ed2, ld2⟩ := nameRot n3 24 ln3
  obtain ⟨c2, ec2, lc2⟩ := nameAdd c1 d2
  obtain ⟨n4, en4, ln4⟩ := nameXor b1 c2 lb1 lc2
  obtain ⟨b2, eb2, lb2⟩ := nameRot n4 25 ln4
  have hfin : blMix i j k l x y L = (((((((L.set i a1).set l d1).set k c1).set j b1).set i a2).set l d2).set k c2).set j b2 := by
    rw [sets8 L i j k l a1 d1 c1 b1 a2 d2 c2 b2 p]
    unfold blMix blMix4
    simp only
    rw [← ha, ← hb, ← hc, ← hd]
    simp only [et1.1, ea1.1, en1.1, ed1, ec1.1, en2.1, eb1, et2.1, ea2.1, en3.1, ed2, ec2.1, en4.1, eb2]
  rw [hfin]
  have Ed1 := Lib.hid ed1
  have Eb1 := Lib.hid eb1
  have Ed2 := Lib.hid ed2
  have Eb2 := Lib.hid eb2
  have f1 : ((a : Int) + ((b : Int) + (x : Int))) % 4294967296 = (a1 : Int) := by have := et1.2.1; have := ea1.2.1; omega
  have f2 : ((a1 : Int) + ((b1 : Int) + (y : Int))) % 4294967296 = (a2 : Int) := by have := et2.2.1; have := ea2.2.1; omega
  obtain ⟨_, gt1, gt1'⟩ := et1
  obtain ⟨_, ga1, ga1'⟩ := ea1
  have gn1 := en1.2
  obtain ⟨_, gc1, gc1'⟩ := ec1
  have gn2 := en2.2
  obtain ⟨_, gt2, gt2'⟩ := et2
  obtain ⟨_, ga2, ga2'⟩ := ea2
  have gn3 := en3.2
  obtain ⟨_, gc2, gc2'⟩ := ec2
  have gn4 := en4.2
  clear en1 en2 en3 en4
  have Rd1 : ∀ W : World, Calls Tryz.prog 283 #[.int .u32 (n1 : Int), .int .i64 (-16)] W fun e w' => e = .returned (.int .u32 (d1 : Int)) ∧ W = w' := fun W => by have := rot16 W n1 ln1; rw [Ed1.out] at this; exact this
  have Rb1 : ∀ W : World, Calls Tryz.prog 283 #[.int .u32 (n2 : Int), .int .i64 (-12)] W fun e w' => e = .returned (.int .u32 (b1 : Int)) ∧ W = w' := fun W => by have := rot12 W n2 ln2; rw [Eb1.out] at this; exact this
  have Rd2 : ∀ W : World, Calls Tryz.prog 283 #[.int .u32 (n3 : Int), .int .i64 (-8)] W fun e w' => e = .returned (.int .u32 (d2 : Int)) ∧ W = w' := fun W => by have := rot8m W n3 ln3; rw [Ed2.out] at this; exact this
  have Rb2 : ∀ W : World, Calls Tryz.prog 283 #[.int .u32 (n4 : Int), .int .i64 (-7)] W fun e w' => e = .returned (.int .u32 (b2 : Int)) ∧ W = w' := fun W => by have := rot7 W n4 ln4; rw [Eb2.out] at this; exact this
  clear ed1 eb1 ed2 eb2
  obtain ⟨z, hz⟩ : ∃ z, z = w.alloc (.cells #[.int .i64 (i : Int), .int .i64 (j : Int), .int .i64 (k : Int), .int .i64 (l : Int)] 345) := ⟨_, rfl⟩
  obtain ⟨B, hB⟩ : ∃ B, B = w.heap.size := ⟨_, rfl⟩
  have hgz : w.grownBy z none := by rw [hz]; exact grow_alloc (grow_refl w none) _
  have bz : Blk z B 345 [.int .i64 (i : Int), .int .i64 (j : Int), .int .i64 (k : Int), .int .i64 (l : Int)] := by rw [hz, hB]; exact obj_new _ _
  have b0 := Blk.cell bz 0
  have b1' := Blk.cell bz 1
  have b2' := Blk.cell bz 2
  have b3' := Blk.cell bz 3
  have FZ : Four z V L i j k l a b c d := ⟨Blk.kept F.1 hgz nofun, F.2⟩
  have HFZ := Lib.hid FZ
  have HGZ := Lib.hid (grow_none (r := some V) hgz)
  have HZ := Lib.hid hz
  have HBB := Lib.hid hB
  have HPP := Lib.hid p
  have i0 : (0 : Int) ≤ (i : Int) := by omega
  have i1 : (i : Int) < 16 := by omega
  have j1 : (j : Int) < 16 := by omega
  have k1 : (k : Int) < 16 := by omega
  have l1 : (l : Int) < 16 := by omega
  clear ha hb hc hd la lb lc ld hV hL hs p li lj lk ll F hfin hz hB hgz bz FZ
  go_enter Tryz.func263, Tryz.ntmps263
  go_upto_region 1 with (fail)
  rw [← HBB.out, ← HZ.out]
  go_quiet (fail)
  clear b0 b1' b2' b3'
  obtain ⟨x0, hx0⟩ : ∃ x0, x0 = z.drewN nq := ⟨_, rfl⟩
  have F0 : Hid (Four x0 V L i j k l a b c d) := by rw [hx0]; exact HFZ.out
  have G0 : Hid (w.grownBy x0 (some V)) := by rw [hx0]; exact Lib.hid (grow_drewN HGZ.out _)
  rw [← hx0]
  clear hx0 HFZ HGZ
  obtain ⟨⟨u0, u1, u2, u3⟩, v0, v1, v2, v3⟩ := F0.out.cells
  have F1' := F0.out.setI HPP.out a1
  have G1' := grow_drew (grow_setCell G0.out i (.int .u32 (a1 : Int)))
  have F1 := Lib.hid F1'
  have G1 := Lib.hid G1'
  clear F1' G1' F0 G0
  go_wp2_with fail
  go_still_tail 10, (by kernel_rfl)
  change wpList _ _ _ _ _ x0.drew
  go_upto_region 3 with (fail)
  generalize (x0.setCell ⟨V, i, none⟩ (.int .u32 (a1 : Int))).drew = x1 at *
  clear u0 u1 u2 u3 v0 v1 v2 v3
  obtain ⟨⟨u0, u1, u2, u3⟩, v0, v1, v2, v3⟩ := F1.out.cells
  have F2' := F1.out.setL HPP.out d1
  have G2' := grow_drew (grow_setCell G1.out l (.int .u32 (d1 : Int)))
  have F2 := Lib.hid F2'
  have G2 := Lib.hid G2'
  clear F2' G2' F1 G1
  go_wp2_with fail
  go_still_tail 10, (by kernel_rfl)
  still_call ((Rd1 _).mono (fun e w' h => ⟨h.1, h.2.symm⟩))
  repeat still_step
  refine wpStill_nil ?_
  change wpList _ _ _ _ _ x1.drew
  go_upto_region 4 with (fail)
  generalize (x1.setCell ⟨V, l, none⟩ (.int .u32 (d1 : Int))).drew = x2 at *
  clear u0 u1 u2 u3 v0 v1 v2 v3
  obtain ⟨⟨u0, u1, u2, u3⟩, v0, v1, v2, v3⟩ := F2.out.cells
  have F3' := F2.out.setK HPP.out c1
  have G3' := grow_drew (grow_setCell G2.out k (.int .u32 (c1 : Int)))
  have F3 := Lib.hid F3'
  have G3 := Lib.hid G3'
  clear F3' G3' F2 G2
  go_wp2_with fail
  go_still_tail 8, (by kernel_rfl)
  change wpList _ _ _ _ _ x2.drew
  go_upto_region 5 with (fail)
  generalize (x2.setCell ⟨V, k, none⟩ (.int .u32 (c1 : Int))).drew = x3 at *
  clear u0 u1 u2 u3 v0 v1 v2 v3
  obtain ⟨⟨u0, u1, u2, u3⟩, v0, v1, v2, v3⟩ := F3.out.cells
  have F4' := F3.out.setJ HPP.out b1
  have G4' := grow_drew (grow_setCell G3.out j (.int .u32 (b1 : Int)))
  have F4 := Lib.hid F4'
  have G4 := Lib.hid G4'
  clear F4' G4' F3 G3
  go_wp2_with fail
  go_still_tail 10, (by kernel_rfl)
  still_call ((Rb1 _).mono (fun e w' h => ⟨h.1, h.2.symm⟩))
  repeat still_step
  refine wpStill_nil ?_
  change wpList _ _ _ _ _ x3.drew
  go_upto_region 6 with (fail)
  generalize (x3.setCell ⟨V, j, none⟩ (.int .u32 (b1 : Int))).drew = x4 at *
  clear u0 u1 u2 u3 v0 v1 v2 v3
  obtain ⟨⟨u0, u1, u2, u3⟩, v0, v1, v2, v3⟩ := F4.out.cells
  have F5' := F4.out.setI HPP.out a2
  have G5' := grow_drew (grow_setCell G4.out i (.int .u32 (a2 : Int)))
  have F5 := Lib.hid F5'
  have G5 := Lib.hid G5'
  clear F5' G5' F4 G4
  go_wp2_with fail
  go_still_tail 10, (by kernel_rfl)
  change wpList _ _ _ _ _ x4.drew
  go_upto_region 7 with (fail)
  generalize (x4.setCell ⟨V, i, none⟩ (.int .u32 (a2 : Int))).drew = x5 at *
  clear u0 u1 u2 u3 v0 v1 v2 v3
  obtain ⟨⟨u0, u1, u2, u3⟩, v0, v1, v2, v3⟩ := F5.out.cells
  have F6' := F5.out.setL HPP.out d2
  have G6' := grow_drew (grow_setCell G5.out l (.int .u32 (d2 : Int)))
  have F6 := Lib.hid F6'
  have G6 := Lib.hid G6'
  clear F6' G6' F5 G5
  go_wp2_with fail
  go_still_tail 10, (by kernel_rfl)
  still_call ((Rd2 _).mono (fun e w' h => ⟨h.1, h.2.symm⟩))
  repeat still_step
  refine wpStill_nil ?_
  change wpList _ _ _ _ _ x5.drew
  go_upto_region 8 with (fail)
  generalize (x5.setCell ⟨V, l, none⟩ (.int .u32 (d2 : Int))).drew = x6 at *
  clear u0 u1 u2 u3 v0 v1 v2 v3
  obtain ⟨⟨u0, u1, u2, u3⟩, v0, v1, v2, v3⟩ := F6.out.cells
  have F7' := F6.out.setK HPP.out c2
  have G7' := grow_drew (grow_setCell G6.out k (.int .u32 (c2 : Int)))
  have F7 := Lib.hid F7'
  have G7 := Lib.hid G7'
  clear F7' G7' F6 G6
  go_wp2_with fail
  go_still_tail 8, (by kernel_rfl)
  change wpList _ _ _ _ _ x6.drew
  go_upto_region 9 with (fail)
  generalize (x6.setCell ⟨V, k, none⟩ (.int .u32 (c2 : Int))).drew = x7 at *
  clear u0 u1 u2 u3 v0 v1 v2 v3
  obtain ⟨⟨u0, u1, u2, u3⟩, v0, v1, v2, v3⟩ := F7.out.cells
  have F8' := F7.out.setJ HPP.out b2
  have G8' := grow_drew (grow_setCell G7.out j (.int .u32 (b2 : Int)))
  have F8 := Lib.hid F8'
  have G8 := Lib.hid G8'
  clear F8' G8' F7 G7
  go_wp2_with fail
  go_still_tail 10, (by kernel_rfl)
  still_call ((Rb2 _).mono (fun e w' h => ⟨h.1, h.2.symm⟩))
  repeat still_step
  refine wpStill_nil ?_
  change wpList _ _ _ _ _ x7.drew
  go_wp2_with fail
  go_end0
  exact ⟨rfl, F8.out.1, G8.out⟩

end Go.Proofs.YtmomfbkpniblgaaGreatDoor
