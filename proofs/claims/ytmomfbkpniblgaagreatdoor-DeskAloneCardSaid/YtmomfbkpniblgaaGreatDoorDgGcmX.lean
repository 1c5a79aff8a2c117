/- Sealed by blocks: a text xored; the tag. -/
import Derived.Test.YtmomfbkpniblgaaGreatDoorDgGcm
namespace Go.Proofs.YtmomfbkpniblgaaGreatDoor
open Go.RowKit
set_option linter.unusedVariables false

theorem Bld.grown {B b : Nat} {l : List UInt8} {w w' : World} (h : Bld B b l w) (g : w.grownBy w' none) : Bld B b l w' := by
  rcases h with ⟨hB, v, hb, ho, hn⟩ | ⟨hB, v, hb, ho, hn⟩
  · exact Or.inl ⟨hB, v, grow_obj g hb nofun, World.ownsRow.kept ho g (by cases v.ownBlock <;> simp), hn⟩
  · exact Or.inr ⟨hB, v, grow_obj g hb nofun, World.ownsRow.kept ho g (by cases v.ownBlock <;> simp), hn⟩

theorem GBox.below {w w' : World} {C T n : Nat} {key : List UInt8} (h : GBox w C T key) (hC : C < n) (hT : T < n) (g : Below n w w') : GBox w' C T key := by
  refine ⟨?_, h.2.below hT g⟩
  unfold Cph Blk
  rw [g.block C hC]
  exact h.1

set_option maxRecDepth 20000 in
set_option maxRecDepth 100000 in
set_option maxHeartbeats 2000000 in
theorem code_gxored (w : World) (C T : Nat) (key nonce s : List UInt8) (h : GBox w C T key) (hk : key.length = 32) (hn : nonce.length = 12) (hs : s.length ≤ 2016) :
    Calls Tryz.prog 158 #[.agg #[.pointer (some ⟨C, 0, none⟩), S nonce], S s] w (Grown (S (gcxL key nonce s)) w) := by
  have hCl := Blk.lt h.1
  have hTl := TabK.lt h.2
  obtain ⟨B, hB⟩ : ∃ B, B = w.heap.size := ⟨_, rfl⟩
  obtain ⟨y, hy⟩ : ∃ y, y = w.alloc (.cells #[.pointer (some ⟨C, 0, none⟩), S nonce] 237) := ⟨_, rfl⟩
  obtain ⟨x, hx⟩ : ∃ x, x = y.alloc (.cells #[.pointer none, .slice none 0 0] 169) := ⟨_, rfl⟩
  have hyB : y.heap.size = B + 1 := by rw [hy, hB]; simp
  have hgx : w.grownBy x none := by rw [hx, hy]; exact grow_alloc (grow_alloc (grow_refl w none) _) _
  have k0 : x.cell? ⟨B, 0, none⟩ = some (.pointer (some ⟨C, 0, none⟩)) := by rw [hx, hy, hB, obj_cell (obj_alloc (obj_new w _))]; rfl
  have k1 : x.cell? ⟨B, 1, none⟩ = some (S nonce) := by rw [hx, hy, hB, obj_cell (obj_alloc (obj_new w _))]; rfl
  have hbl : Bld (B + 1) (B + 1) [] x := by
    have := bld_new y (B + 1) (by omega)
    rw [hyB] at this
    rw [hx]
    exact this
  have hxs : B + 1 ≤ x.heap.size := by rw [hx]; simp; omega
  have HGB := Lib.hid (h.kept hgx)
  have HGX := Lib.hid hgx
  have HK0 := Lib.hid k0
  have HK1 := Lib.hid k1
  have HXS := Lib.hid hxs
  have HBL := Lib.hid hbl
  have HBw : B = w.heap.size := hB
  have HWB := Lib.hid hB
  have HY := Lib.hid hy
  have HX := Lib.hid hx
  have HYB := Lib.hid hyB
  have hrec : gcxL key nonce s = [] ++ gcx key nonce (s.length + 1) 2 s := rfl
  generalize gcxL key nonce s = V at *
  have HR := Lib.hid hrec
  have r2 := rule_ext
  clear hx hy hyB hgx k0 k1 hbl hxs h hB HBw hrec
  unfold S
  go_enter Tryz.func158, Tryz.ntmps158
  go_wp2_with fail
  have hX := HX.out
  rw [HY.out] at hX
  unfold S at hX
  rw [← hX, ← HWB.out]
  clear hX HX HY HYB
  go_loopw [1, 6, 7] (fun vs vn v7 wr => ∃ (f m : Nat) (U out : List UInt8), vn = .int .i64 m ∧ vs = .string ⟨U.toArray⟩ ∧ Hid (V = out ++ gcx key nonce f m U) ∧ Hid (U.length ≤ 16 * f) ∧ out.length + U.length ≤ 2016 ∧ m + U.length ≤ 10000 ∧ Hid (Bld (B + 1) (B + 1) out wr) ∧ Hid (Below (B + 1) x wr)) (fun vs _ _ _ => match vs with | .string b => b.size | _ => 0)
  case atStart => exact ⟨s.length + 1, 2, s, [], rfl, rfl, HR, Lib.hid (by omega), by simpa using hs, by omega, HBL, Lib.hid (Below.refl _ _)⟩
  case round =>
    clear HR HBL
    obtain ⟨f, m, U, out, rfl, rfl, hV, hf, hle, hm, hbl, hB⟩ := hrel
    have hws := Lib.hid (Nat.le_trans HXS.out hB.out.size)
    by_cases hU : U = []
    · subst hU
      rw [gcx_nil, List.append_nil] at hV
      have A9 : ∀ W : World, Bld (B + 1) (B + 1) out W → B + 1 ≤ W.heap.size → Calls Tryz.prog 114 #[.pointer (some ⟨B + 1, 0, none⟩)] W fun e w' => e = .returned (.string ⟨out.toArray⟩) ∧ Below (B + 1) W w' := fun W h1 h2 => Tryz.Builder_String_any (B + 1) (B + 1) out W h1 h2
      go_wp2_with fail
      (with_reducible refine (A9 _ hbl.out hws.out).mono ?_)
      rintro e w9 ⟨rfl, hB9⟩
      have HF := Lib.hid (hB.out.trans hB9)
      clear hB9 A9
      go_wp2_with fail
      go_ret
      exact ⟨by rw [hV.out]; rfl, grow_of_below ((grow_below HGX.out _ (Nat.le_refl _) (by simp)).trans (HF.out.mono (by have := HWB.out; omega)))⟩
    · have q1 : (!U.isEmpty) = true := by simpa using hU
      have q2 : U.isEmpty = false := by simpa using hU
      have hpos : 0 < U.length := List.length_pos_iff.2 hU
      have hb16 := gblk_length key nonce m hk hn
      have hxl := xorL_length U (gblk key nonce m)
      have hdp := Lib.hid (gdrop_part U (gblk key nonce m) hb16)
      obtain ⟨g, rfl⟩ : ∃ g, f = g + 1 := by
        have := hf.out
        exact ⟨f - 1, by omega⟩
      have hstep := Lib.hid (show V = (out ++ xorL U (gblk key nonce m)) ++ gcx key nonce g (m + 1) (U.drop 16) from by
        rw [hV.out, gcx, if_neg hU, List.append_assoc])
      have A1 : ∀ W : World, GBox W C T key → Calls Tryz.prog 207 #[.agg #[.pointer (some ⟨C, 0, none⟩), S nonce], .int .i64 m] W (Grown (S (gblk key nonce m)) W) := fun W hW => code_gblock W C T m key nonce hW hk hn (by omega)
      have A2 : ∀ W : World, Calls Tryz.prog 202 #[S U, S (gblk key nonce m)] W (GrowsTo (S (xorL U (gblk key nonce m))) W) := fun W => wire_xor W U (gblk key nonce m) (by omega) (by omega)
      have A3 : ∀ W : World, Bld (B + 1) (B + 1) out W → B + 1 ≤ W.heap.size → Calls Tryz.prog 112 #[.pointer (some ⟨B + 1, 0, none⟩), S (xorL U (gblk key nonce m))] W fun e w' => e = .returned (.tuple #[.int .i64 (xorL U (gblk key nonce m)).length, .nilIface]) ∧ Bld (B + 1) (B + 1) (out ++ xorL U (gblk key nonce m)) w' ∧ Below (B + 1) W w' := fun W h1 h2 => bld_text (B + 1) (B + 1) out _ W h1 (by rw [hxl]; omega) h2
      have htk : List.take (U.length - (xorL U (gblk key nonce m)).length) (List.drop (xorL U (gblk key nonce m)).length U) = List.drop (xorL U (gblk key nonce m)).length U := List.take_of_length_le (by simp)
      have hlen2 : (xorL U (gblk key nonce m)).length ≤ U.length := by rw [hxl]; omega
      have hsum : (out ++ xorL U (gblk key nonce m)).length + (U.drop (xorL U (gblk key nonce m)).length).length ≤ 2016 := by rw [List.length_append, List.length_drop]; omega
      have hone : 1 ≤ (xorL U (gblk key nonce m)).length := by rw [hxl]; omega
      have c0 := (hB.out.cell (p := ⟨B, 0, none⟩) (Nat.lt_succ_self B)).trans HK0.out
      have c1 := (hB.out.cell (p := ⟨B, 1, none⟩) (Nat.lt_succ_self B)).trans HK1.out
      have hgb := Lib.hid (HGB.out.below (n := B + 1) (by have := HWB.out; omega) (by have := HWB.out; omega) hB.out)
      have HBW := Lib.hid (Nat.lt_succ_self B)
      clear hxl hb16 hV hU
      generalize xorL U (gblk key nonce m) = X at *
      generalize gblk key nonce m = bl at *
      unfold S GrowsTo at *
      go_wp2_with fail
      (with_reducible refine (A1 _ hgb.out).mono ?_)
      rintro e w2 ⟨rfl, hg2⟩
      go_wp2_with fail
      (with_reducible refine (A2 _).mono ?_)
      rintro e w3 ⟨rfl, hg3⟩
      have HG3 := Lib.hid (grow_trans hg2 hg3)
      have HBL3 := Lib.hid (hbl.out.grown HG3.out)
      have HB3 := Lib.hid (hB.out.trans (grow_below HG3.out (B + 1) hws.out (by simp)))
      have hw3 := Lib.hid (Nat.le_trans hws.out HG3.out.size)
      clear hg2 hg3 A1 A2 c0 c1
      go_wp2_with fail
      (with_reducible refine (A3 _ HBL3.out hw3.out).mono ?_)
      rintro e w4 ⟨rfl, hbl4, hB4⟩
      have HBL4 := Lib.hid hbl4
      have HB4 := Lib.hid (HB3.out.trans hB4)
      clear hbl4 hB4 A3
      go_wp2_with fail
      go_roundw
      case rel => exact ⟨g, m + 1, U.drop X.length, out ++ X, by go_num, rfl, Lib.hid (by rw [hdp.out]; exact hstep.out), Lib.hid (by rw [hdp.out, List.length_drop]; have := hf.out; omega), hsum, by rw [List.length_drop]; omega, HBL4, HB4⟩
      case measure => simp [ByteArray.size]; omega

end Go.Proofs.YtmomfbkpniblgaaGreatDoor
