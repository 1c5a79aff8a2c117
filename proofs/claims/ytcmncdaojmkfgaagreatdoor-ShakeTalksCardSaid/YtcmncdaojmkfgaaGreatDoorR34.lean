/-
  Several texts of this claim in one: Gcm, GcmX, GcmSeal, GcmOpen.
-/
import Derived.Test.YtcmncdaojmkfgaaGreatDoorR26
import Derived.Test.YtcmncdaojmkfgaaGreatDoorR31
import Derived.Test.YtcmncdaojmkfgaaGreatDoorR09
import Derived.Test.YtcmncdaojmkfgaaGreatDoorWxor
namespace Go.Proofs.YtcmncdaojmkfgaaGreatDoor
open Go.RowKit
set_option linter.unusedVariables false

/-- A box: a cipher, a nonce. -/
def GBox (w : World) (C T : Nat) (key : List UInt8) : Prop := Cph w C T (expL key) ∧ Tab w T
theorem GBox.kept {w w' : World} {C T : Nat} {key : List UInt8} (h : GBox w C T key) (g : w.grownBy w' none) : GBox w' C T key := ⟨Blk.kept h.1 g nofun, h.2.kept g nofun⟩

theorem enc_box (w : World) (C T : Nat) (key text : List UInt8) (h : GBox w C T key) (hk : key.length = 32) (ht : text.length = 16) :
    Calls Tryz.prog 175 #[.pointer (some ⟨C, 0, none⟩), S text] w fun e w' => e = .returned (S (encL key text)) ∧ w.grownBy w' none :=
  code_encT w C T (key.length / 4 + 6) (expL key) text h.1 h.2 ht (by rw [(expL_pre key (Or.inr hk)).1]) (by omega) (by omega)

set_option maxRecDepth 100000 in
set_option maxHeartbeats 1000000 in
theorem code_gblock (w : World) (C T n : Nat) (key nonce : List UInt8) (h : GBox w C T key) (hk : key.length = 32) (hn : nonce.length = 12) (h32 : n < 4294967296) :
    Calls Tryz.prog 176 #[.agg #[.pointer (some ⟨C, 0, none⟩), S nonce], .int .i64 n] w (Grown (S (gblk key nonce n)) w) := by
  obtain ⟨B, hB⟩ : ∃ B, B = w.heap.size := ⟨_, rfl⟩
  obtain ⟨y, hy⟩ : ∃ y, y = w.alloc (.cells #[.pointer (some ⟨C, 0, none⟩), S nonce] 234) := ⟨_, rfl⟩
  have hgy : w.grownBy y none := by rw [hy]; exact grow_alloc (grow_refl w none) _
  have k0 : y.cell? ⟨B, 0, none⟩ = some (.pointer (some ⟨C, 0, none⟩)) := by rw [hy, hB, obj_cell (obj_new w _)]; rfl
  have k1 : y.cell? ⟨B, 1, none⟩ = some (S nonce) := by rw [hy, hB, obj_cell (obj_new w _)]; rfl
  have hyB : B < y.heap.size := by rw [hy, hB]; simp
  have HGB := Lib.hid (h.kept hgy)
  have HGY := Lib.hid hgy
  have HN := Lib.hid hn
  have hV : gblk key nonce n = encL key (nonce ++ bigB n 4) := rfl
  have lb : (nonce ++ bigB n 4).length = 16 := by rw [List.length_append, bigB_length, hn]
  have cv : ∀ W : World, ∃ v W', (convert 9 90 (.string ⟨nonce.toArray⟩)).run Tryz.prog W = .ok v W' ∧ bro W' W.heap.size v nonce ∧ W.grownBy W' none := fun W => to_bro W nonce (by unfold maxLen; omega)
  have A1 : ∀ (W : World) (b : Nat) (v : Value), bro W b v nonce → b ≤ W.heap.size → Calls Tryz.prog 58 #[v, .int .u64 n, .int .i64 4] W (OwnBro W b (nonce ++ bigB n 4)) := fun W b v h1 h2 => bro_appendBig W b v nonce n 4 h1 (by omega) (by omega) (by omega) h2
  have A2 : ∀ W : World, GBox W C T key → Calls Tryz.prog 175 #[.pointer (some ⟨C, 0, none⟩), S (nonce ++ bigB n 4)] W fun e w' => e = .returned (S (gblk key nonce n)) ∧ W.grownBy w' none := fun W hW => by rw [hV]; exact enc_box W C T key _ hW hk lb
  have e1 : IntKind.u64.wrap (n : Int) = (n : Int) := IntWalk.u64_in _ (by omega)
  generalize gblk key nonce n = V at *
  generalize nonce ++ bigB n 4 = X at *
  have HY := Lib.hid hy
  have HB := Lib.hid hB
  clear hy hB hV lb hgy h
  unfold S at *
  go_enter Tryz.func176, Tryz.ntmps176
  go_wp2_with fail
  rw [← HB.out, ← HY.out]
  obtain ⟨v, x, hcv, hbr, hgx⟩ := cv y.drew
  have hgx2 : y.grownBy x none := grow_trans (grow_drew (grow_refl y none)) hgx
  have m0 := hgx2.cell (a := ⟨B, 0, none⟩) k0 nofun
  have HGX := Lib.hid hgx2
  have HBR := Lib.hid (show bro x y.heap.size v nonce from hbr)
  have HSZ := Lib.hid (show y.heap.size ≤ x.heap.size from hgx2.size)
  clear cv hgx hgx2 hbr
  go_region_with
    (first
      | (go_at_call 58; (with_reducible refine (A1 _ _ _ HBR.out HSZ.out).mono ?_); rintro e w7 ⟨t1, rfl, hb1, hB1⟩; have hcs := conv_bro hb1; have n0 := (hB1.cell (p := ⟨B, 0, none⟩) hyB).trans m0; have HG7 := Lib.hid (grow_of_below (r := none) ((grow_below HGX.out _ (Nat.le_refl _) (by simp)).trans hB1)))
      | (go_at_call 175; (with_reducible refine (A2 _ (HGB.out.kept HG7.out)).mono ?_); rintro e w8 ⟨rfl, hg8⟩))
  all_goals
    have HF := grow_trans (grow_trans HGY.out HG7.out) hg8
    go_wp2_with fail
    go_ret
    exact ⟨rfl, HF⟩

end Go.Proofs.YtcmncdaojmkfgaaGreatDoor

namespace Go.Proofs.YtcmncdaojmkfgaaGreatDoor
open Go.RowKit
set_option linter.unusedVariables false

theorem Bld.grown {B b : Nat} {l : List UInt8} {w w' : World} (h : Bld B b l w) (g : w.grownBy w' none) : Bld B b l w' := by
  rcases h with ⟨hB, v, hb, ho, hn⟩ | ⟨hB, v, hb, ho, hn⟩
  · exact Or.inl ⟨hB, v, grow_obj g hb nofun, World.ownsRow.kept ho g (by cases v.ownBlock <;> simp), hn⟩
  · exact Or.inr ⟨hB, v, grow_obj g hb nofun, World.ownsRow.kept ho g (by cases v.ownBlock <;> simp), hn⟩

theorem GBox.below {w w' : World} {C T n : Nat} {key : List UInt8} (h : GBox w C T key) (hC : C < n) (hT : T < n) (g : Below n w w') : GBox w' C T key := by
  refine ⟨?_, h.2.below hT g⟩
  unfold Cph Blk
  rw [g.block C hC]
  exact h.1

set_option maxRecDepth 20000 in
set_option maxRecDepth 100000 in
set_option maxHeartbeats 2000000 in
theorem code_gxored (w : World) (C T : Nat) (key nonce s : List UInt8) (h : GBox w C T key) (hk : key.length = 32) (hn : nonce.length = 12) (hs : s.length ≤ 2016) :
    Calls Tryz.prog 170 #[.agg #[.pointer (some ⟨C, 0, none⟩), S nonce], S s] w (Grown (S (gcxL key nonce s)) w) := by
  have hCl := Blk.lt h.1
  have hTl := TabK.lt h.2
  obtain ⟨B, hB⟩ : ∃ B, B = w.heap.size := ⟨_, rfl⟩
  obtain ⟨y, hy⟩ : ∃ y, y = w.alloc (.cells #[.pointer (some ⟨C, 0, none⟩), S nonce] 234) := ⟨_, rfl⟩
  obtain ⟨x, hx⟩ : ∃ x, x = y.alloc (.cells #[.pointer none, .slice none 0 0] 111) := ⟨_, rfl⟩
  have hyB : y.heap.size = B + 1 := by rw [hy, hB]; simp
  have hgx : w.grownBy x none := by rw [hx, hy]; exact grow_alloc (grow_alloc (grow_refl w none) _) _
  have k0 : x.cell? ⟨B, 0, none⟩ = some (.pointer (some ⟨C, 0, none⟩)) := by rw [hx, hy, hB, obj_cell (obj_alloc (obj_new w _))]; rfl
  have k1 : x.cell? ⟨B, 1, none⟩ = some (S nonce) := by rw [hx, hy, hB, obj_cell (obj_alloc (obj_new w _))]; rfl
  have hbl : Bld (B + 1) (B + 1) [] x := by
    have := bld_new y (B + 1) (by omega)
    rw [hyB] at this
    rw [hx]
    exact this
  have hxs : B + 1 ≤ x.heap.size := by rw [hx]; simp; omega
  have HGB := Lib.hid (h.kept hgx)
  have HGX := Lib.hid hgx
  have HK0 := Lib.hid k0
  have HK1 := Lib.hid k1
  have HXS := Lib.hid hxs
  have HBL := Lib.hid hbl
  have HBw : B = w.heap.size := hB
  have HWB := Lib.hid hB
  have HY := Lib.hid hy
  have HX := Lib.hid hx
  have HYB := Lib.hid hyB
  have hrec : gcxL key nonce s = [] ++ gcx key nonce (s.length + 1) 2 s := rfl
  generalize gcxL key nonce s = V at *
  have HR := Lib.hid hrec
  have r2 := rule_ext
  clear hx hy hyB hgx k0 k1 hbl hxs h hB HBw hrec
  unfold S
  go_enter Tryz.func170, Tryz.ntmps170
  go_wp2_with fail
  have hX := HX.out
  rw [HY.out] at hX
  unfold S at hX
  rw [← hX, ← HWB.out]
  clear hX HX HY HYB
  go_loopw [1, 6, 7] (fun vs vn v7 wr => ∃ (f m : Nat) (U out : List UInt8), vn = .int .i64 m ∧ vs = .string ⟨U.toArray⟩ ∧ Hid (V = out ++ gcx key nonce f m U) ∧ Hid (U.length ≤ 16 * f) ∧ out.length + U.length ≤ 2016 ∧ m + U.length ≤ 10000 ∧ Hid (Bld (B + 1) (B + 1) out wr) ∧ Hid (Below (B + 1) x wr)) (fun vs _ _ _ => match vs with | .string b => b.size | _ => 0)
  case atStart => exact ⟨s.length + 1, 2, s, [], rfl, rfl, HR, Lib.hid (by omega), by simpa using hs, by omega, HBL, Lib.hid (Below.refl _ _)⟩
  case round =>
    clear HR HBL
    obtain ⟨f, m, U, out, rfl, rfl, hV, hf, hle, hm, hbl, hB⟩ := hrel
    have hws := Lib.hid (Nat.le_trans HXS.out hB.out.size)
    by_cases hU : U = []
    · subst hU
      rw [gcx_nil, List.append_nil] at hV
      have A9 : ∀ W : World, Bld (B + 1) (B + 1) out W → B + 1 ≤ W.heap.size → Calls Tryz.prog 57 #[.pointer (some ⟨B + 1, 0, none⟩)] W fun e w' => e = .returned (.string ⟨out.toArray⟩) ∧ Below (B + 1) W w' := fun W h1 h2 => Tryz.Builder_String_any (B + 1) (B + 1) out W h1 h2
      go_wp2_with fail
      (with_reducible refine (A9 _ hbl.out hws.out).mono ?_)
      rintro e w9 ⟨rfl, hB9⟩
      have HF := Lib.hid (hB.out.trans hB9)
      clear hB9 A9
      go_wp2_with fail
      go_ret
      exact ⟨by rw [hV.out]; rfl, grow_of_below ((grow_below HGX.out _ (Nat.le_refl _) (by simp)).trans (HF.out.mono (by have := HWB.out; omega)))⟩
    · have q1 : (!U.isEmpty) = true := by simpa using hU
      have q2 : U.isEmpty = false := by simpa using hU
      have hpos : 0 < U.length := List.length_pos_iff.2 hU
      have hb16 := gblk_length key nonce m hk hn
      have hxl := xorL_length U (gblk key nonce m)
      have hdp := Lib.hid (gdrop_part U (gblk key nonce m) hb16)
      obtain ⟨g, rfl⟩ : ∃ g, f = g + 1 := by
        have := hf.out
        exact ⟨f - 1, by omega⟩
      have hstep := Lib.hid (show V = (out ++ xorL U (gblk key nonce m)) ++ gcx key nonce g (m + 1) (U.drop 16) from by
        rw [hV.out, gcx, if_neg hU, List.append_assoc])
      have A1 : ∀ W : World, GBox W C T key → Calls Tryz.prog 176 #[.agg #[.pointer (some ⟨C, 0, none⟩), S nonce], .int .i64 m] W (Grown (S (gblk key nonce m)) W) := fun W hW => code_gblock W C T m key nonce hW hk hn (by omega)
      have A2 : ∀ W : World, Calls Tryz.prog 151 #[S U, S (gblk key nonce m)] W (GrowsTo (S (xorL U (gblk key nonce m))) W) := fun W => wire_xor W U (gblk key nonce m) (by omega) (by omega)
      have A3 : ∀ W : World, Bld (B + 1) (B + 1) out W → B + 1 ≤ W.heap.size → Calls Tryz.prog 55 #[.pointer (some ⟨B + 1, 0, none⟩), S (xorL U (gblk key nonce m))] W fun e w' => e = .returned (.tuple #[.int .i64 (xorL U (gblk key nonce m)).length, .nilIface]) ∧ Bld (B + 1) (B + 1) (out ++ xorL U (gblk key nonce m)) w' ∧ Below (B + 1) W w' := fun W h1 h2 => bld_text (B + 1) (B + 1) out _ W h1 (by rw [hxl]; omega) h2
      have htk : List.take (U.length - (xorL U (gblk key nonce m)).length) (List.drop (xorL U (gblk key nonce m)).length U) = List.drop (xorL U (gblk key nonce m)).length U := List.take_of_length_le (by simp)
      have hlen2 : (xorL U (gblk key nonce m)).length ≤ U.length := by rw [hxl]; omega
      have hsum : (out ++ xorL U (gblk key nonce m)).length + (U.drop (xorL U (gblk key nonce m)).length).length ≤ 2016 := by rw [List.length_append, List.length_drop]; omega
      have hone : 1 ≤ (xorL U (gblk key nonce m)).length := by rw [hxl]; omega
      have c0 := (hB.out.cell (p := ⟨B, 0, none⟩) (Nat.lt_succ_self B)).trans HK0.out
      have c1 := (hB.out.cell (p := ⟨B, 1, none⟩) (Nat.lt_succ_self B)).trans HK1.out
      have hgb := Lib.hid (HGB.out.below (n := B + 1) (by have := HWB.out; omega) (by have := HWB.out; omega) hB.out)
      have HBW := Lib.hid (Nat.lt_succ_self B)
      clear hxl hb16 hV hU
      generalize xorL U (gblk key nonce m) = X at *
      generalize gblk key nonce m = bl at *
      unfold S GrowsTo at *
      go_wp2_with fail
      (with_reducible refine (A1 _ hgb.out).mono ?_)
      rintro e w2 ⟨rfl, hg2⟩
      go_wp2_with fail
      (with_reducible refine (A2 _).mono ?_)
      rintro e w3 ⟨rfl, hg3⟩
      have HG3 := Lib.hid (grow_trans hg2 hg3)
      have HBL3 := Lib.hid (hbl.out.grown HG3.out)
      have HB3 := Lib.hid (hB.out.trans (grow_below HG3.out (B + 1) hws.out (by simp)))
      have hw3 := Lib.hid (Nat.le_trans hws.out HG3.out.size)
      clear hg2 hg3 A1 A2 c0 c1
      go_wp2_with fail
      (with_reducible refine (A3 _ HBL3.out hw3.out).mono ?_)
      rintro e w4 ⟨rfl, hbl4, hB4⟩
      have HBL4 := Lib.hid hbl4
      have HB4 := Lib.hid (HB3.out.trans hB4)
      clear hbl4 hB4 A3
      go_wp2_with fail
      go_roundw
      case rel => exact ⟨g, m + 1, U.drop X.length, out ++ X, by go_num, rfl, Lib.hid (by rw [hdp.out]; exact hstep.out), Lib.hid (by rw [hdp.out, List.length_drop]; have := hf.out; omega), hsum, by rw [List.length_drop]; omega, HBL4, HB4⟩
      case measure => simp [ByteArray.size]; omega

end Go.Proofs.YtcmncdaojmkfgaaGreatDoor

namespace Go.Proofs.YtcmncdaojmkfgaaGreatDoor
open Go.RowKit
set_option linter.unusedVariables false

set_option maxRecDepth 100000 in
set_option maxHeartbeats 2000000 in
theorem code_gtag (w : World) (C T : Nat) (key nonce more s : List UInt8) (h : GBox w C T key) (hk : key.length = 32) (hn : nonce.length = 12) (hm : more.length ≤ 2000) (hs : s.length ≤ 2016) :
    Calls Tryz.prog 169 #[.agg #[.pointer (some ⟨C, 0, none⟩), S nonce], S more, S s] w (Grown (S (gtagL key nonce more s)) w) := by
  obtain ⟨B, hB⟩ : ∃ B, B = w.heap.size := ⟨_, rfl⟩
  obtain ⟨y, hy⟩ : ∃ y, y = w.alloc (.cells #[.pointer (some ⟨C, 0, none⟩), S nonce] 234) := ⟨_, rfl⟩
  have hgy : w.grownBy y none := by rw [hy]; exact grow_alloc (grow_refl w none) _
  have k0 : y.cell? ⟨B, 0, none⟩ = some (.pointer (some ⟨C, 0, none⟩)) := by rw [hy, hB, obj_cell (obj_new w _)]; rfl
  have k1 : y.cell? ⟨B, 1, none⟩ = some (S nonce) := by rw [hy, hB, obj_cell (obj_new w _)]; rfl
  have HGB := Lib.hid (h.kept hgy)
  have HGY := Lib.hid hgy
  have hV : gtagL key nonce more s = xorL (hsumL (encL key (zerosL 16)) more s) (gblk key nonce 1) := rfl
  have le := encL_length key (zerosL 16) (Or.inr hk) (by simp [zerosL])
  have lh := hsumL_length (encL key (zerosL 16)) more s
  have lb := gblk_length key nonce 1 hk hn
  have A1 : ∀ W : World, Calls Tryz.prog 36 #[.string ⟨#[0]⟩, .int .i64 16] W (Grown (S (zerosL 16)) W) := fun W => repeat_zero W 16 (by omega)
  have A2 : ∀ W : World, GBox W C T key → Calls Tryz.prog 175 #[.pointer (some ⟨C, 0, none⟩), S (zerosL 16)] W fun e w' => e = .returned (S (encL key (zerosL 16))) ∧ W.grownBy w' none := fun W hW => enc_box W C T key _ hW hk (by simp [zerosL])
  have A3 : ∀ W : World, Calls Tryz.prog 174 #[S (encL key (zerosL 16)), S more, S s] W fun e w' => e = .returned (.tuple #[S (hsumL (encL key (zerosL 16)) more s), .int .i64 0]) ∧ W.grownBy w' none := fun W => code_ghsum W _ more s le (by omega) (by omega)
  have A4 : ∀ W : World, GBox W C T key → Calls Tryz.prog 176 #[.agg #[.pointer (some ⟨C, 0, none⟩), S nonce], .int .i64 1] W (Grown (S (gblk key nonce 1)) W) := fun W hW => code_gblock W C T 1 key nonce hW hk hn (by omega)
  have A5 : ∀ W : World, Calls Tryz.prog 151 #[S (hsumL (encL key (zerosL 16)) more s), S (gblk key nonce 1)] W (GrowsTo (S (gtagL key nonce more s)) W) := fun W => by rw [hV]; exact wire_xor W _ _ (by omega) (by omega)
  generalize gtagL key nonce more s = V at *
  generalize hsumL (encL key (zerosL 16)) more s = H at *
  generalize encL key (zerosL 16) = E at *
  generalize gblk key nonce 1 = bl at *
  generalize zerosL 16 = z at *
  have HY := Lib.hid hy
  have HB := Lib.hid hB
  clear hy hB hV le lh lb hgy h
  unfold S GrowsTo at *
  go_enter Tryz.func169, Tryz.ntmps169
  go_wp2_with fail
  rw [← HB.out, ← HY.out]
  go_region_with
    (first
      | (go_at_call 36; (with_reducible refine (A1 _).mono ?_); rintro e w3 ⟨rfl, hg3⟩; have G3 := grow_drew hg3; have m0 := hg3.cell (a := ⟨B, 0, none⟩) k0 nofun; have m1 := hg3.cell (a := ⟨B, 1, none⟩) k1 nofun; have HG3 := Lib.hid (grow_trans (grow_drew (grow_refl y none)) hg3))
      | (go_at_call 175; (with_reducible refine (A2 _ (HGB.out.kept HG3.out)).mono ?_); rintro e w4 ⟨rfl, hg4⟩; have n0 := hg4.cell (a := ⟨B, 0, none⟩) m0 nofun; have n1 := hg4.cell (a := ⟨B, 1, none⟩) m1 nofun; have HG4 := Lib.hid (grow_trans HG3.out hg4))
      | (go_at_call 174; (with_reducible refine (A3 _).mono ?_); rintro e w5 ⟨rfl, hg5⟩; have o0 := hg5.cell (a := ⟨B, 0, none⟩) n0 nofun; have o1 := hg5.cell (a := ⟨B, 1, none⟩) n1 nofun; have HG5 := Lib.hid (grow_trans HG4.out hg5)))
  all_goals
    clear hg5 k0 k1 m0 m1 n0 n1 HG4 hg4 hg3 A1 A2 A3
    go_wp2_with fail
    (with_reducible refine (A4 _ (HGB.out.kept HG5.out)).mono ?_)
    rintro e w6 ⟨rfl, hg6⟩
    go_wp2_with fail
    (with_reducible refine (A5 _).mono ?_)
    rintro e w7 ⟨rfl, hg7⟩
    have HF := grow_trans (grow_trans (grow_trans HGY.out HG5.out) hg6) hg7
    go_wp2_with fail
    go_ret
    exact ⟨rfl, HF⟩

/-- What the check answers. -/
def gcheckE (key nonce more text : List UInt8) (most : Nat) : Int := if key.length = 32 ∧ nonce.length = 12 then (if more.length ≤ 2000 ∧ text.length ≤ most then 0 else 2) else 1

set_option maxRecDepth 100000 in
set_option maxHeartbeats 1000000 in
theorem code_gcheck (w : World) (key nonce more text : List UInt8) (most : Nat) (hm : most ≤ 100000) :
    Calls Tryz.prog 167 #[S key, S nonce, S more, S text, .int .i64 most] w fun e w' => e = .returned (.int .i64 (gcheckE key nonce more text most)) ∧ w = w' := by
  obtain ⟨V, hV⟩ : ∃ V, V = gcheckE key nonce more text most := ⟨_, rfl⟩
  rw [← hV]
  have HV := Lib.hid hV
  clear hV
  unfold S
  by_cases h1 : key.length = 32
  · have q1 : ((key.length : Int) != 32) = false := by simp; omega
    by_cases h2 : nonce.length = 12
    · have q2 : ((nonce.length : Int) != 12) = false := by simp; omega
      by_cases h3 : more.length ≤ 2000
      · have q3 : decide ((2000 : Int) < (more.length : Int)) = false := by simp; omega
        by_cases h4 : text.length ≤ most
        · have q4 : ¬ most < text.length := by omega
          have HR := Lib.hid (show V = 0 from by rw [HV.out]; unfold gcheckE; rw [if_pos ⟨h1, h2⟩, if_pos ⟨h3, h4⟩])
          clear h1 h2 h3 h4 HV
          go_enter Tryz.func167, Tryz.ntmps167
          go_wp2_with fail
          go_ret
          exact ⟨by rw [HR.out]; rfl, rfl⟩
        · have q4 : most < text.length := by omega
          have HR := Lib.hid (show V = 2 from by rw [HV.out]; unfold gcheckE; rw [if_pos ⟨h1, h2⟩, if_neg (by omega)])
          clear h1 h2 h3 h4 HV
          go_enter Tryz.func167, Tryz.ntmps167
          go_wp2_with fail
          go_ret
          exact ⟨by rw [HR.out]; rfl, rfl⟩
      · have q3 : decide ((2000 : Int) < (more.length : Int)) = true := by simp; omega
        have HR := Lib.hid (show V = 2 from by rw [HV.out]; unfold gcheckE; rw [if_pos ⟨h1, h2⟩, if_neg (by omega)])
        clear h1 h2 h3 HV
        go_enter Tryz.func167, Tryz.ntmps167
        go_wp2_with fail
        go_ret
        exact ⟨by rw [HR.out]; rfl, rfl⟩
    · have q2 : ((nonce.length : Int) != 12) = true := by simp; omega
      have HR := Lib.hid (show V = 1 from by rw [HV.out]; unfold gcheckE; rw [if_neg (by omega)])
      clear h1 h2 HV
      go_enter Tryz.func167, Tryz.ntmps167
      go_wp2_with fail
      go_ret
      exact ⟨by rw [HR.out]; rfl, rfl⟩
  · have q1 : ((key.length : Int) != 32) = true := by simp; omega
    have HR := Lib.hid (show V = 1 from by rw [HV.out]; unfold gcheckE; rw [if_neg (by omega)])
    clear h1 HV
    go_enter Tryz.func167, Tryz.ntmps167
    go_wp2_with fail
    go_ret
    exact ⟨by rw [HR.out]; rfl, rfl⟩


def gnoE (n : Int) : Value := .tuple #[S [], .int .i64 n]
def GSaid (l : List UInt8) (w : World) (e : Ending) (w' : World) : Prop := e = .returned (.tuple #[S l, .int .i64 0]) ∧ w.grownBy w' none

theorem code_gseal_err (w : World) (key nonce more text : List UInt8) (n : Int) (h : gcheckE key nonce more text 2000 = n) (hn : (n == 0) = false) :
    Calls Tryz.prog 166 #[S key, S nonce, S more, S text] w fun e w' => e = .returned (gnoE n) ∧ w = w' := by
  have H := Lib.hid h
  have hn2 : (n != 0) = true := by simpa using hn
  clear h
  unfold S gnoE
  go_enter Tryz.func166, Tryz.ntmps166
  go_wp2_with fail
  refine (code_gcheck w key nonce more text 2000 (by omega)).mono ?_
  rintro e w1 ⟨rfl, rfl⟩
  rw [H.out]
  go_wp2_with fail
  go_ret2
  exact ⟨rfl, rfl⟩

set_option maxRecDepth 100000 in
set_option maxHeartbeats 1000000 in
theorem code_gseal (w : World) (key nonce more text : List UInt8) (hk : key.length = 32) (hn : nonce.length = 12) (hm : more.length ≤ 2000) (ht : text.length ≤ 2000) :
    Calls Tryz.prog 166 #[S key, S nonce, S more, S text] w (GSaid (gsealL key nonce more text) w) := by
  have H := Lib.hid (show gcheckE key nonce more text 2000 = 0 from by unfold gcheckE; rw [if_pos ⟨hk, hn⟩, if_pos ⟨hm, ht⟩])
  have hV : gsealL key nonce more text = gcxL key nonce text ++ gtagL key nonce more (gcxL key nonce text) := rfl
  generalize gsealL key nonce more text = V at *
  have lc := gcxL_length key nonce text hk hn
  have lt := gtagL_length key nonce more (gcxL key nonce text) hk hn
  have A0 : ∀ W : World, Calls Tryz.prog 168 #[S key] W (NewC W key) := fun W => code_anew W key (Or.inr hk)
  have A1 : ∀ (W : World) (C T : Nat), GBox W C T key → Calls Tryz.prog 170 #[.agg #[.pointer (some ⟨C, 0, none⟩), S nonce], S text] W (Grown (S (gcxL key nonce text)) W) := fun W C T hW => code_gxored W C T key nonce text hW hk hn (by omega)
  have A2 : ∀ (W : World) (C T : Nat), GBox W C T key → Calls Tryz.prog 169 #[.agg #[.pointer (some ⟨C, 0, none⟩), S nonce], S more, S (gcxL key nonce text)] W (Grown (S (gtagL key nonce more (gcxL key nonce text))) W) := fun W C T hW => code_gtag W C T key nonce more _ hW hk hn hm (by omega)
  generalize gtagL key nonce more (gcxL key nonce text) = TG at *
  generalize gcxL key nonce text = CT at *
  have HV := Lib.hid hV
  have k1 : CT.length + TG.length ≤ 9223372036854775807 := by omega
  have r1 := rule_app
  clear hV lc lt
  have HC := Lib.hid (fun W : World => code_gcheck W key nonce more text 2000 (by omega))
  clear hk hn hm ht
  unfold S GSaid at *
  go_enter Tryz.func166, Tryz.ntmps166
  go_wp2_with fail
  refine (HC.out _).mono ?_
  rintro e w1 ⟨rfl, rfl⟩
  rw [H.out]
  go_wp2_with fail
  (with_reducible refine (A0 _).mono ?_)
  rintro e w2 ⟨C, T, rfl, hC, hT, hC1, hT1, hg2⟩
  have HGB := Lib.hid (show GBox w2 C T key from ⟨hC, hT⟩)
  clear hC hT A0
  go_wp2_with fail
  obtain ⟨x, hx⟩ : ∃ x, x = w2.alloc (.cells #[.pointer (some ⟨C, 0, none⟩), .string ⟨nonce.toArray⟩] 234) := ⟨_, rfl⟩
  obtain ⟨B, hB⟩ : ∃ B, B = w2.heap.size := ⟨_, rfl⟩
  have hgx : w2.grownBy x none := by rw [hx]; exact grow_alloc (grow_refl w2 none) _
  have k0 : x.cell? ⟨B, 0, none⟩ = some (.pointer (some ⟨C, 0, none⟩)) := by rw [hx, hB, obj_cell (obj_new w2 _)]; rfl
  have k2 : x.cell? ⟨B, 1, none⟩ = some (.string ⟨nonce.toArray⟩) := by rw [hx, hB, obj_cell (obj_new w2 _)]; rfl
  rw [← hx, ← hB]
  have HGX := Lib.hid hgx
  clear hx hB hgx
  (with_reducible refine (A1 _ C T (HGB.out.kept HGX.out)).mono ?_)
  rintro e w3 ⟨rfl, hg3⟩
  have m0 := hg3.cell (a := ⟨B, 0, none⟩) k0 nofun
  have m1 := hg3.cell (a := ⟨B, 1, none⟩) k2 nofun
  have HG3 := Lib.hid (grow_trans HGX.out hg3)
  clear k0 k2 hg3 A1
  go_wp2_with fail
  (with_reducible refine (A2 _ C T (HGB.out.kept HG3.out)).mono ?_)
  rintro e w4 ⟨rfl, hg4⟩
  have HF := grow_trans (grow_trans hg2 HG3.out) hg4
  go_wp2_with fail
  rw [HV.out]
  go_ret2
  exact ⟨rfl, HF⟩

end Go.Proofs.YtcmncdaojmkfgaaGreatDoor

namespace Go.Proofs.YtcmncdaojmkfgaaGreatDoor
open Go.RowKit
set_option linter.unusedVariables false

theorem code_gopen_err (w : World) (key nonce more text : List UInt8) (n : Int) (h : gcheckE key nonce more text 2016 = n) (hn : (n == 0) = false) :
    Calls Tryz.prog 165 #[S key, S nonce, S more, S text] w fun e w' => e = .returned (gnoE n) ∧ w = w' := by
  have H := Lib.hid h
  have hn2 : (n != 0) = true := by simpa using hn
  clear h
  unfold S gnoE
  go_enter Tryz.func165, Tryz.ntmps165
  go_wp2_with fail
  refine (code_gcheck w key nonce more text 2016 (by omega)).mono ?_
  rintro e w1 ⟨rfl, rfl⟩
  rw [H.out]
  go_wp2_with fail
  go_ret2
  exact ⟨rfl, rfl⟩

theorem code_gopen_short (w : World) (key nonce more text : List UInt8) (hk : key.length = 32) (hn : nonce.length = 12) (hm : more.length ≤ 2000) (ht : text.length < 16) :
    Calls Tryz.prog 165 #[S key, S nonce, S more, S text] w fun e w' => e = .returned (gnoE 4) ∧ w = w' := by
  have H := Lib.hid (show gcheckE key nonce more text 2016 = 0 from by unfold gcheckE; rw [if_pos ⟨hk, hn⟩, if_pos ⟨hm, by omega⟩])
  have q : (text.length : Int) < 16 := by omega
  clear hk hn hm ht
  unfold S gnoE
  go_enter Tryz.func165, Tryz.ntmps165
  go_wp2_with fail
  refine (code_gcheck w key nonce more text 2016 (by omega)).mono ?_
  rintro e w1 ⟨rfl, rfl⟩
  rw [H.out]
  go_wp2_with fail
  go_ret2
  exact ⟨rfl, rfl⟩

set_option maxRecDepth 100000 in
set_option maxHeartbeats 1000000 in
theorem code_gopen (w : World) (key nonce more c : List UInt8) (hk : key.length = 32) (hn : nonce.length = 12) (hm : more.length ≤ 2000) (hc : c.length ≤ 2000) :
    Calls Tryz.prog 165 #[S key, S nonce, S more, S (c ++ gtagL key nonce more c)] w (GSaid (gcxL key nonce c) w) := by
  have lt := gtagL_length key nonce more c hk hn
  have H := Lib.hid (show gcheckE key nonce more (c ++ gtagL key nonce more c) 2016 = 0 from by unfold gcheckE; rw [if_pos ⟨hk, hn⟩, if_pos ⟨hm, by rw [List.length_append]; omega⟩])
  have A0 : ∀ W : World, Calls Tryz.prog 168 #[S key] W (NewC W key) := fun W => code_anew W key (Or.inr hk)
  have A1 : ∀ (W : World) (C T : Nat), GBox W C T key → Calls Tryz.prog 170 #[.agg #[.pointer (some ⟨C, 0, none⟩), S nonce], S c] W (Grown (S (gcxL key nonce c)) W) := fun W C T hW => code_gxored W C T key nonce c hW hk hn (by omega)
  have A2 : ∀ (W : World) (C T : Nat), GBox W C T key → Calls Tryz.prog 169 #[.agg #[.pointer (some ⟨C, 0, none⟩), S nonce], S more, S c] W (Grown (S (gtagL key nonce more c)) W) := fun W C T hW => code_gtag W C T key nonce more _ hW hk hn hm (by omega)
  generalize gtagL key nonce more c = TG at *
  generalize gcxL key nonce c = CT at *
  obtain ⟨U, hU⟩ : ∃ U, U = c ++ TG := ⟨_, rfl⟩
  rw [← hU] at H ⊢
  have lU : U.length = c.length + 16 := by rw [hU, List.length_append, lt]
  have tU : U.take c.length = c := by rw [hU, List.take_left]
  have dU : (U.drop c.length).take (U.length - c.length) = TG := by rw [hU, List.drop_left, List.take_of_length_le (by rw [List.length_append]; omega)]
  have n1 : ¬ ((U.length : Int) < 16) := by omega
  have e1 : ((U.length : Int) - 16) = (c.length : Int) := by omega
  have e2 : (0 : Int) ≤ (c.length : Int) := by omega
  have e3 : (c.length : Int) ≤ (U.length : Int) := by omega
  have e4 : IntKind.i64.wrap (c.length : Int) = (c.length : Int) := IntWalk.i64_in _ (by omega)
  have r2 := rule_ext
  have HC := Lib.hid (fun W : World => code_gcheck W key nonce more U 2016 (by omega))
  clear hU hk hn hm lt lU hc
  unfold S GSaid at *
  go_enter Tryz.func165, Tryz.ntmps165
  go_wp2_with fail
  refine (HC.out _).mono ?_
  rintro e w1 ⟨rfl, rfl⟩
  rw [H.out]
  go_wp2_with fail
  (with_reducible refine (A0 _).mono ?_)
  rintro e w2 ⟨C, T, rfl, hC, hT, hC1, hT1, hg2⟩
  have HGB := Lib.hid (show GBox w2 C T key from ⟨hC, hT⟩)
  clear hC hT A0
  go_wp2_with fail
  obtain ⟨x, hx⟩ : ∃ x, x = w2.alloc (.cells #[.pointer (some ⟨C, 0, none⟩), .string ⟨nonce.toArray⟩] 234) := ⟨_, rfl⟩
  obtain ⟨B, hB⟩ : ∃ B, B = w2.heap.size := ⟨_, rfl⟩
  have hgx : w2.grownBy x none := by rw [hx]; exact grow_alloc (grow_refl w2 none) _
  have k0 : x.cell? ⟨B, 0, none⟩ = some (.pointer (some ⟨C, 0, none⟩)) := by rw [hx, hB, obj_cell (obj_new w2 _)]; rfl
  have k2 : x.cell? ⟨B, 1, none⟩ = some (.string ⟨nonce.toArray⟩) := by rw [hx, hB, obj_cell (obj_new w2 _)]; rfl
  rw [← hx, ← hB]
  have HGX := Lib.hid hgx
  clear hx hB hgx
  go_quiet (fail)
  go_wp2_with fail
  (with_reducible refine (A2 _ C T (HGB.out.kept (grow_drewN HGX.out _))).mono ?_)
  rintro e w3 ⟨rfl, hg3⟩
  have m0 := hg3.cell (a := ⟨B, 0, none⟩) k0 nofun
  have m1 := hg3.cell (a := ⟨B, 1, none⟩) k2 nofun
  have HG3 := Lib.hid (grow_trans (grow_drewN HGX.out _) hg3)
  clear k0 k2 hg3 A2
  go_wp2_with fail
  (with_reducible refine (A1 _ C T (HGB.out.kept HG3.out)).mono ?_)
  rintro e w4 ⟨rfl, hg4⟩
  have HF := grow_trans (grow_trans hg2 HG3.out) hg4
  go_wp2_with fail
  go_ret2
  exact ⟨rfl, HF⟩

end Go.Proofs.YtcmncdaojmkfgaaGreatDoor
