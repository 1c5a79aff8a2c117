/- The walk of PolyBits. -/
import Derived.Test.YtfdbnkbnfappfaaPolyLaws
import Derived.Test.YtfdbnkbnfappfaaRest
import Derived.Test.YtfdbnkbnfappfaaByRow
import Derived.Outline
namespace Go.Proofs.Ytfdbnkbnfappfaa
open Go.RowKit
set_option linter.unusedVariables false

theorem pb_tag : tagL (sizedL [2] 32) [1] = [2, 2] ++ zerosL 14 := by decide +kernel

theorem flip_facts (K t : List UInt8) (hK : K.length = 32) (ht : t.length ≤ 9223372036854775807) (x3 : World) (B cap : Nat) (hb : Bys x3 B K) (hB : B < x3.heap.size) (k : Nat) (hk : k < 16) (x : UInt8) (hx : ∀ c : UInt8, (c ^^^ x) &&& maskL.getD k 0 = c &&& maskL.getD k 0) :
    ∃ d : UInt8, bits .xor .u8 ((K[k]'(by omega)).toNat : Int) (x.toNat : Int) = (d.toNat : Int) ∧
      (∀ o : Obj, (convert 45 9 (.slice (some ⟨B, 0, none⟩) 32 cap)).run Try.prog ((x3.setCell ⟨B, k, none⟩ (.int .u8 (d.toNat : Int))).alloc o) = .ok (.string ⟨(K.set k d).toArray⟩) ((x3.setCell ⟨B, k, none⟩ (.int .u8 (d.toNat : Int))).alloc o)) ∧
      ∀ W : World, Calls Try.prog 25 #[.string ⟨(K.set k d).toArray⟩, .string ⟨t.toArray⟩] W (Grown (.tuple #[.string ⟨(tagL K t).toArray⟩, .int .i64 0]) W) := by
  have hx' : (K[k]'(by omega) ^^^ x) &&& maskL.getD k 0 = K.getD k 0 &&& maskL.getD k 0 := by
    rw [hx, List.getD_eq_getElem?_getD (l := K), List.getElem?_eq_getElem (show k < K.length by omega)]; rfl
  have hd := xor_byte (K[k]'(by omega)) x
  generalize (K[k]'(by omega) ^^^ x) = d at *
  refine ⟨d, hd, fun o => ?_, fun W => ?_⟩
  · have h1 := (hb.set k d (by omega)).kept (by simpa [World.setCell] using hB) (World.grownBy_alloc _ o none) (by simp)
    have := conv_bys h1 cap
    rwa [List.length_set, hK] at this
  · have := code_ptag W (K.set k d) t (by rw [List.length_set]; exact hK) ht
    rwa [tag_bits K t hK k hk d hx'] at this

set_option maxRecDepth 20000 in
set_option maxHeartbeats 1000000 in
theorem walk_PolyBits (s0 s1 : ByteArray) (a2 : Int) (w0 : s0.size ≤ maxLen) (w1 : s1.size ≤ maxLen) (w2 : (Lit.int .i64 a2).wf = true) (w : World) :
    Calls Try.prog 9 #[.string s0, .string s1, .int .i64 a2] w fun e w' => e = .returned (.bool true) ∧ Below w.heap.size w w' := by
  obtain ⟨k, rfl, hk⟩ := listB s0
  obtain ⟨t, rfl, ht⟩ := listB s1
  have b2 := bounds_i64 w2
  unfold maxLen at w0 w1
  rw [← hk] at w0
  rw [← ht] at w1
  clear hk ht w2
  have A1 : ∀ W : World, Calls Try.prog 20 #[.string ⟨k.toArray⟩, .int .i64 32] W (Grown (S (sizedL k 32)) W) := fun W => code_sized W k 32 w0 (by omega)
  have A2 : ∀ W : World, Calls Try.prog 20 #[.string ⟨#[2]⟩, .int .i64 32] W (Grown (S (sizedL [2] 32)) W) := fun W => code_sized W [2] 32 (by simp) (by omega)
  have kl := sizedL_length k 32
  generalize sizedL k 32 = K at *
  have B1 : ∀ W : World, Calls Try.prog 25 #[S K, S t] W (Grown (.tuple #[S (tagL K t), .int .i64 0]) W) := fun W => code_ptag W K t kl w1
  have B3 : ∀ W : World, Calls Try.prog 25 #[S (sizedL [2] 32), S [1]] W (Grown (.tuple #[S ([2, 2] ++ zerosL 14), .int .i64 0]) W) := fun W => by
    have := code_ptag W (sizedL [2] 32) [1] (sizedL_length _ _) (by simp)
    rwa [pb_tag] at this
  obtain ⟨j, hj, j4⟩ : ∃ j : Nat, a2 % 7 = (j : Int) ∧ j < 7 := ⟨(a2 % 7).toNat, by omega, by omega⟩
  unfold S at *
  go_enter Try.func9, Try.ntmps9
  go_wp2_with fail
  refine (A1 _).mono ?_
  rintro e x1 ⟨rfl, hg1⟩
  go_wp2_with fail
  refine (B1 _).mono ?_
  rintro e x2 ⟨rfl, hg2⟩
  obtain ⟨cap, x3, hcv, _, hg3, hlt3, hb⟩ := to_bytes x2 K (by omega)
  have hB := Lib.hid hb
  have qz : ((2 :: 2 :: zerosL 14) == (ByteArray.mk #[2, 2] ++ ByteArray.mk (zerosL 14).toArray).toList) = true := by decide +kernel
  have hR : ∀ W : World, Calls Try.prog 23 #[.int .i64 a2, .int .i64 7] W fun e w' => e = .returned (.int .i64 (j : Int)) ∧ W = w' := fun W => by
    have := rest_any a2 7 W b2.1 b2.2 (by omega) (by omega)
    rwa [hj] at this
  obtain ⟨c3, f3⟩ := hb 3 (by omega)
  obtain ⟨c4, f4⟩ := hb 4 (by omega)
  obtain ⟨c7, f7⟩ := hb 7 (by omega)
  obtain ⟨c8, f8⟩ := hb 8 (by omega)
  obtain ⟨c11, f11⟩ := hb 11 (by omega)
  obtain ⟨c12, f12⟩ := hb 12 (by omega)
  obtain ⟨c15, f15⟩ := hb 15 (by omega)
  have kl := kl
  clear hb hj b2 A1 B1
  have hj7 : j = 0 ∨ j = 1 ∨ j = 2 ∨ j = 3 ∨ j = 4 ∨ j = 5 ∨ j = 6 := by omega
  clear j4
  rcases hj7 with rfl | rfl | rfl | rfl | rfl | rfl | rfl
  · obtain ⟨d, E1, E2, E3⟩ := flip_facts K t kl w1 x3 x2.heap.size cap hB.out hlt3 3 (by omega) 240 flip_f0
    have E1' : bits .xor .u8 (K[3].toNat : Int) 240 = (d.toNat : Int) := E1
    clear E1
    go_wp2_with fail
    refine (hR _).mono ?_
    rintro e x4 ⟨rfl, rfl⟩
    go_wp2_with fail
    refine (E3 _).mono ?_
    rintro e x5 ⟨rfl, hg5⟩
    go_wp2_with fail
    refine (A2 _).mono ?_
    rintro e x6 ⟨rfl, hg6⟩
    go_wp2_with fail
    refine (B3 _).mono ?_
    rintro e x7 ⟨rfl, hg7⟩
    go_wp2_with fail
    refine (code_zeros _ 14 (by omega)).mono ?_
    rintro e x8 ⟨rfl, hg8⟩
    unfold S
    go_wp2_with fail
    go_ret
    exact ⟨rfl, grow_below (grow_trans (grow_trans (grow_trans (grow_trans (grow_alloc (grow_setCell_new (grow_trans (grow_trans hg1 hg2) hg3) _ (show w.heap.size ≤ x2.heap.size from (grow_trans hg1 hg2).size) _) _) hg5) hg6) hg7) hg8) _ (Nat.le_refl _) (by simp)⟩
  · obtain ⟨d, E1, E2, E3⟩ := flip_facts K t kl w1 x3 x2.heap.size cap hB.out hlt3 7 (by omega) 240 flip_f0
    have E1' : bits .xor .u8 (K[7].toNat : Int) 240 = (d.toNat : Int) := E1
    clear E1
    go_wp2_with fail
    refine (hR _).mono ?_
    rintro e x4 ⟨rfl, rfl⟩
    go_wp2_with fail
    refine (E3 _).mono ?_
    rintro e x5 ⟨rfl, hg5⟩
    go_wp2_with fail
    refine (A2 _).mono ?_
    rintro e x6 ⟨rfl, hg6⟩
    go_wp2_with fail
    refine (B3 _).mono ?_
    rintro e x7 ⟨rfl, hg7⟩
    go_wp2_with fail
    refine (code_zeros _ 14 (by omega)).mono ?_
    rintro e x8 ⟨rfl, hg8⟩
    unfold S
    go_wp2_with fail
    go_ret
    exact ⟨rfl, grow_below (grow_trans (grow_trans (grow_trans (grow_trans (grow_alloc (grow_setCell_new (grow_trans (grow_trans hg1 hg2) hg3) _ (show w.heap.size ≤ x2.heap.size from (grow_trans hg1 hg2).size) _) _) hg5) hg6) hg7) hg8) _ (Nat.le_refl _) (by simp)⟩
  · obtain ⟨d, E1, E2, E3⟩ := flip_facts K t kl w1 x3 x2.heap.size cap hB.out hlt3 11 (by omega) 240 flip_f0
    have E1' : bits .xor .u8 (K[11].toNat : Int) 240 = (d.toNat : Int) := E1
    clear E1
    go_wp2_with fail
    refine (hR _).mono ?_
    rintro e x4 ⟨rfl, rfl⟩
    go_wp2_with fail
    refine (E3 _).mono ?_
    rintro e x5 ⟨rfl, hg5⟩
    go_wp2_with fail
    refine (A2 _).mono ?_
    rintro e x6 ⟨rfl, hg6⟩
    go_wp2_with fail
    refine (B3 _).mono ?_
    rintro e x7 ⟨rfl, hg7⟩
    go_wp2_with fail
    refine (code_zeros _ 14 (by omega)).mono ?_
    rintro e x8 ⟨rfl, hg8⟩
    unfold S
    go_wp2_with fail
    go_ret
    exact ⟨rfl, grow_below (grow_trans (grow_trans (grow_trans (grow_trans (grow_alloc (grow_setCell_new (grow_trans (grow_trans hg1 hg2) hg3) _ (show w.heap.size ≤ x2.heap.size from (grow_trans hg1 hg2).size) _) _) hg5) hg6) hg7) hg8) _ (Nat.le_refl _) (by simp)⟩
  · obtain ⟨d, E1, E2, E3⟩ := flip_facts K t kl w1 x3 x2.heap.size cap hB.out hlt3 15 (by omega) 240 flip_f0
    have E1' : bits .xor .u8 (K[15].toNat : Int) 240 = (d.toNat : Int) := E1
    clear E1
    go_wp2_with fail
    refine (hR _).mono ?_
    rintro e x4 ⟨rfl, rfl⟩
    go_wp2_with fail
    refine (E3 _).mono ?_
    rintro e x5 ⟨rfl, hg5⟩
    go_wp2_with fail
    refine (A2 _).mono ?_
    rintro e x6 ⟨rfl, hg6⟩
    go_wp2_with fail
    refine (B3 _).mono ?_
    rintro e x7 ⟨rfl, hg7⟩
    go_wp2_with fail
    refine (code_zeros _ 14 (by omega)).mono ?_
    rintro e x8 ⟨rfl, hg8⟩
    unfold S
    go_wp2_with fail
    go_ret
    exact ⟨rfl, grow_below (grow_trans (grow_trans (grow_trans (grow_trans (grow_alloc (grow_setCell_new (grow_trans (grow_trans hg1 hg2) hg3) _ (show w.heap.size ≤ x2.heap.size from (grow_trans hg1 hg2).size) _) _) hg5) hg6) hg7) hg8) _ (Nat.le_refl _) (by simp)⟩
  · obtain ⟨d, E1, E2, E3⟩ := flip_facts K t kl w1 x3 x2.heap.size cap hB.out hlt3 4 (by omega) 3 flip_3
    have E1' : bits .xor .u8 (K[4].toNat : Int) 3 = (d.toNat : Int) := E1
    clear E1
    go_wp2_with fail
    refine (hR _).mono ?_
    rintro e x4 ⟨rfl, rfl⟩
    go_wp2_with fail
    refine (E3 _).mono ?_
    rintro e x5 ⟨rfl, hg5⟩
    go_wp2_with fail
    refine (A2 _).mono ?_
    rintro e x6 ⟨rfl, hg6⟩
    go_wp2_with fail
    refine (B3 _).mono ?_
    rintro e x7 ⟨rfl, hg7⟩
    go_wp2_with fail
    refine (code_zeros _ 14 (by omega)).mono ?_
    rintro e x8 ⟨rfl, hg8⟩
    unfold S
    go_wp2_with fail
    go_ret
    exact ⟨rfl, grow_below (grow_trans (grow_trans (grow_trans (grow_trans (grow_alloc (grow_setCell_new (grow_trans (grow_trans hg1 hg2) hg3) _ (show w.heap.size ≤ x2.heap.size from (grow_trans hg1 hg2).size) _) _) hg5) hg6) hg7) hg8) _ (Nat.le_refl _) (by simp)⟩
  · obtain ⟨d, E1, E2, E3⟩ := flip_facts K t kl w1 x3 x2.heap.size cap hB.out hlt3 8 (by omega) 3 flip_3
    have E1' : bits .xor .u8 (K[8].toNat : Int) 3 = (d.toNat : Int) := E1
    clear E1
    go_wp2_with fail
    refine (hR _).mono ?_
    rintro e x4 ⟨rfl, rfl⟩
    go_wp2_with fail
    refine (E3 _).mono ?_
    rintro e x5 ⟨rfl, hg5⟩
    go_wp2_with fail
    refine (A2 _).mono ?_
    rintro e x6 ⟨rfl, hg6⟩
    go_wp2_with fail
    refine (B3 _).mono ?_
    rintro e x7 ⟨rfl, hg7⟩
    go_wp2_with fail
    refine (code_zeros _ 14 (by omega)).mono ?_
    rintro e x8 ⟨rfl, hg8⟩
    unfold S
    go_wp2_with fail
    go_ret
    exact ⟨rfl, grow_below (grow_trans (grow_trans (grow_trans (grow_trans (grow_alloc (grow_setCell_new (grow_trans (grow_trans hg1 hg2) hg3) _ (show w.heap.size ≤ x2.heap.size from (grow_trans hg1 hg2).size) _) _) hg5) hg6) hg7) hg8) _ (Nat.le_refl _) (by simp)⟩
  · obtain ⟨d, E1, E2, E3⟩ := flip_facts K t kl w1 x3 x2.heap.size cap hB.out hlt3 12 (by omega) 3 flip_3
    have E1' : bits .xor .u8 (K[12].toNat : Int) 3 = (d.toNat : Int) := E1
    clear E1
    go_wp2_with fail
    refine (hR _).mono ?_
    rintro e x4 ⟨rfl, rfl⟩
    go_wp2_with fail
    refine (E3 _).mono ?_
    rintro e x5 ⟨rfl, hg5⟩
    go_wp2_with fail
    refine (A2 _).mono ?_
    rintro e x6 ⟨rfl, hg6⟩
    go_wp2_with fail
    refine (B3 _).mono ?_
    rintro e x7 ⟨rfl, hg7⟩
    go_wp2_with fail
    refine (code_zeros _ 14 (by omega)).mono ?_
    rintro e x8 ⟨rfl, hg8⟩
    unfold S
    go_wp2_with fail
    go_ret
    exact ⟨rfl, grow_below (grow_trans (grow_trans (grow_trans (grow_trans (grow_alloc (grow_setCell_new (grow_trans (grow_trans hg1 hg2) hg3) _ (show w.heap.size ≤ x2.heap.size from (grow_trans hg1 hg2).size) _) _) hg5) hg6) hg7) hg8) _ (Nat.le_refl _) (by simp)⟩

end Go.Proofs.Ytfdbnkbnfappfaa
